-- Packed by a program of this session (slim.py) out of printed texts; not trusted, Lean checks it.
import Derived.Test.YtnggbahcmhdjnaaPrint0
import Derived.Test.YtnggbahcmhdjnaaPrint1
import Derived.Test.YtnggbahcmhdjnaaQFnField0
namespace Go.Proofs.Ytnggbahcmhdjnaa.Print
open Go.RowKit Go.Proofs.YtnggbahcmhdjnaaW.PrintWords Go.Proofs.YtnggbahcmhdjnaaW.PrintLast Go.Proofs.YtnggbahcmhdjnaaW.PrintMore
attribute [local go_sem] max2_int min2_int max_two min_two max_three min_three max_four min_four   -- for this text's walks alone
set_option linter.unusedVariables false
set_option linter.unusedSimpArgs false

/-! ### laws_FnField: function 11 -/
mutual
def laws_FnField.j0 : Nat → List Int → List Int → Bool → Option (Bool)
  | 0, _, _, _ => none
  | k + 1, x0, x1, x39 => if x39 = true then (some true) else ((spec_FieldOf.f k x0).bind fun t431 => ((spec_FieldOf.f k x1).bind fun t432 => ((some (([7] : List Int) : List Int)).bind fun y433 => (if y433.length + x1.length < 140737488355328 then ((spec_FieldOf.f k (y433 ++ x1)).bind fun t439 => ((impl_Add.f t431 t432).bind fun bt440 => ((impl_Mul.f t431 t432).bind fun bt442 => ((impl_Sub.f bt440.1 t432).bind fun bt444 => ((impl_Mul.f bt440.1 t439).bind fun bt446 => ((impl_Mul.f t431 t439).bind fun bt448 => ((impl_Mul.f t432 t439).bind fun bt450 => ((impl_Add.f bt448.1 bt450.1).bind fun bt452 => ((impl_Mul.f t432 t431).bind fun bt454 => ((spec_Mul.f t431 t432).bind fun bt456 => (if bt440.2 = 0 then (if bt442.2 = 0 then (if bt444.2 = 0 then (if bt446.2 = 0 then (if bt448.2 = 0 then (if bt450.2 = 0 then (if bt452.2 = 0 then (if bt454.2 = 0 then (if bt442.1 = bt456.1 then (if bt444.1 = t431 then (if bt446.1 = bt452.1 then (if bt454.1 = bt442.1 then ((impl_FieldOK.f bt440.1).bind fun t458 => (if t458 = true then ((impl_FieldOK.f bt442.1).bind fun t459 => (laws_FnField.j1 k t431 (!t459))) else (laws_FnField.j1 k t431 true))) else (laws_FnField.j1 k t431 true)) else (laws_FnField.j1 k t431 true)) else (laws_FnField.j1 k t431 true)) else (laws_FnField.j1 k t431 true)) else (laws_FnField.j1 k t431 true)) else (laws_FnField.j1 k t431 true)) else (laws_FnField.j1 k t431 true)) else (laws_FnField.j1 k t431 true)) else (laws_FnField.j1 k t431 true)) else (laws_FnField.j1 k t431 true)) else (laws_FnField.j1 k t431 true)) else (laws_FnField.j1 k t431 true)))))))))))) else (none)))))
def laws_FnField.j1 : Nat → Int → Bool → Option (Bool)
  | 0, _, _ => none
  | k + 1, x5, x161 => if x161 = true then (none) else (if x5 = 0 then ((impl_Inverse.f k x5).bind fun bt460 => (some (bt460.2 == 7))) else ((impl_Inverse.f k x5).bind fun bt462 => ((impl_Mul.f bt462.1 x5).bind fun bt464 => (if bt462.2 = 0 then (if bt464.2 = 0 then (some (bt464.1 == 1)) else (none)) else (none)))))
end
def laws_FnField.f (k : Nat) (l0 : List Int) (l1 : List Int) : Option (Bool) := if (l0.length : Int) > 1048576 then (laws_FnField.j0 k l0 l1 true) else (laws_FnField.j0 k l0 l1 (decide ((l1.length : Int) > 1048576)))
theorem laws_FnField.mono_l : ∀ k, (∀ y0 y1 y2, LeO (laws_FnField.j0 k y0 y1 y2) (laws_FnField.j0 (k + 1) y0 y1 y2)) ∧ (∀ y0 y1, LeO (laws_FnField.j1 k y0 y1) (laws_FnField.j1 (k + 1) y0 y1))
  | 0 => ⟨fun _ _ _ r h => by simp [laws_FnField.j0] at h, fun _ _ r h => by simp [laws_FnField.j1] at h⟩
  | k + 1 => by
    obtain ⟨ih0, ih1⟩ := laws_FnField.mono_l k
    refine ⟨?_, ?_⟩
    · intro y0 y1 y2
      unfold laws_FnField.j0
      repeat' first
      | (with_reducible exact ih0 _ _ _)
      | (with_reducible exact ih1 _ _)
      | (with_reducible exact impl_Inverse.mono _ _)
      | (with_reducible exact spec_FieldOf.mono _ _)
      | (with_reducible exact LeO.refl _)
      | (with_reducible exact LeO.none _)
      | (with_reducible refine LeO.ite ?_ ?_)
      | (with_reducible refine LeO.bind ?_ (fun _ => ?_))
      | exact ih0 _ _ _
      | exact ih1 _ _
      | exact impl_Inverse.mono _ _
      | exact spec_FieldOf.mono _ _
      | exact LeO.none _
      | refine LeO.ite ?_ ?_
      | refine LeO.bind ?_ (fun _ => ?_)
    · intro y0 y1
      unfold laws_FnField.j1
      repeat' first
      | (with_reducible exact ih0 _ _ _)
      | (with_reducible exact ih1 _ _)
      | (with_reducible exact impl_Inverse.mono _ _)
      | (with_reducible exact spec_FieldOf.mono _ _)
      | (with_reducible exact LeO.refl _)
      | (with_reducible exact LeO.none _)
      | (with_reducible refine LeO.ite ?_ ?_)
      | (with_reducible refine LeO.bind ?_ (fun _ => ?_))
      | exact ih0 _ _ _
      | exact ih1 _ _
      | exact impl_Inverse.mono _ _
      | exact spec_FieldOf.mono _ _
      | exact LeO.none _
      | refine LeO.ite ?_ ?_
      | refine LeO.bind ?_ (fun _ => ?_)
theorem laws_FnField.mono : ∀ a0 a1 k, LeO (laws_FnField.f k a0 a1) (laws_FnField.f (k + 1) a0 a1) := by
  intro a0 a1 k
  obtain ⟨ih0, ih1⟩ := laws_FnField.mono_l k
  unfold laws_FnField.f
  repeat' first
      | (with_reducible exact ih0 _ _ _)
      | (with_reducible exact ih1 _ _)
      | (with_reducible exact impl_Inverse.mono _ _)
      | (with_reducible exact spec_FieldOf.mono _ _)
      | (with_reducible exact LeO.refl _)
      | (with_reducible exact LeO.none _)
      | (with_reducible refine LeO.ite ?_ ?_)
      | (with_reducible refine LeO.bind ?_ (fun _ => ?_))
      | exact ih0 _ _ _
      | exact ih1 _ _
      | exact impl_Inverse.mono _ _
      | exact spec_FieldOf.mono _ _
      | exact LeO.none _
      | refine LeO.ite ?_ ?_
      | refine LeO.bind ?_ (fun _ => ?_)
set_option maxHeartbeats 8000000 in
set_option maxRecDepth 100000 in
theorem laws_FnField.calls (k : Nat) (A0 : Option Addr) (c0 : Nat) (l0 : List Int) (A1 : Option Addr) (c1 : Nat) (l1 : List Int) (r : Bool) (w : World) (hr0 : Kd.C (Kd.int .u8) w A0 l0.length l0) (hc0 : l0.length ≤ c0) (hr1 : Kd.C (Kd.int .u8) w A1 l1.length l1) (hc1 : l1.length ≤ c1) (h : laws_FnField.f k l0 l1 = some r) :
    Calls Try.prog 11 #[.slice A0 l0.length c0, .slice A1 l1.length c1] w fun e w' => e = .returned (.bool r) ∧ Below w.heap.size w w' := by
  have HR0 := Aside0.mk hr0
  have HC0 := Aside0.mk hc0
  clear hr0 hc0
  have HR1 := Aside0.mk hr1
  have HC1 := Aside0.mk hc1
  clear hr1 hc1
  have HB := Aside0.mk (Below.refl w.heap.size w)
  have H : (if (l0.length : Int) > 1048576 then (laws_FnField.j0 k l0 l1 true) else (laws_FnField.j0 k l0 l1 (decide ((l1.length : Int) > 1048576)))) = some r := h
  clear h
  have HC3 := Aside0.mk H
  clear H
  go_enter Try.func11, Try.ntmps11
  go_upto_region 1 with (fail)
  go_cut [39] (fun v39 wc => ∃ (kq : Nat) (x39_2 : Bool), v39 = .bool x39_2 ∧ Aside0 (laws_FnField.j0 kq l0 l1 x39_2 = some r) ∧ Aside0 (kq ≤ k) ∧ Aside0 (Below w.heap.size w wc))
  case first =>
    have H := HC3.out
    clear HC3
    by_cases c4 : (l0.length : Int) > 1048576
    · rw [if_pos c4] at H
      have c4b0 : decide (1048576 < (l0.length : Int)) = true := decide_eq_true c4
      have c4b1 : decide (1048576 < l0.length) = true := decide_eq_true (by omega)
      clear c4
      (first | rw [c4b0] | (simp only [i64_w, i32_w]; rw [c4b0]) | skip)
      have H' := Aside0.mk H
      clear H
      go_wp2
      go_meet
      case rel => exact ⟨_, (true), (by first | rfl | (simp; done) | (simp [*]; done)), H', ⟨by first | omega | exact Nat.le_refl _⟩, ⟨by repeat (first | (with_reducible first | exact HB.out | apply below_alloc | apply pw_below_drewN | apply below_drew1) | exact HB.out)⟩⟩
    · rw [if_neg c4] at H
      have c4b0 : decide (1048576 < (l0.length : Int)) = false := decide_eq_false c4
      have c4b1 : decide (1048576 < l0.length) = false := decide_eq_false (by omega)
      clear c4
      (first | rw [c4b0] | (simp only [i64_w, i32_w]; rw [c4b0]) | skip)
      have H' := Aside0.mk H
      clear H
      go_wp2
      go_meet
      case rel => exact ⟨_, (decide ((l1.length : Int) > 1048576)), (by first | rfl | (simp; done) | (simp [*]; done)), H', ⟨by first | omega | exact Nat.le_refl _⟩, ⟨by repeat (first | (with_reducible first | exact HB.out | apply below_alloc | apply pw_below_drewN | apply below_drew1) | exact HB.out)⟩⟩
  case rest =>
    clear HC3
    try clear c1
    try clear p2
    try clear c4
    try clear c4b0
    try clear c4b1
    obtain ⟨kq, x39_2, rfl, HA, HJ2, HB⟩ := hcut
    cases kq with
    | zero => exact absurd HA.out (by simp [laws_FnField.j0])
    | succ kj2 =>
      have H := HA.out
      clear HA
      simp only [laws_FnField.j0] at H
      by_cases c5 : x39_2 = true
      · subst c5
        have H1 : (some true) = some r := by rw [if_pos rfl] at H; exact H
        clear H
        have H := H1
        clear H1
        obtain rfl := Option.some.inj H
        go_wp2
        go_ret
        exact ⟨by first | rfl | (simp [errW_none, errW_some] <;> rfl) | (simp [*, errW_none, errW_some] <;> rfl), by repeat (first | (with_reducible first | exact HB.out | apply below_alloc | apply pw_below_drewN | apply below_drew1) | exact HB.out)⟩
      · replace c5 := Bool.eq_false_iff.mpr c5
        subst c5
        have H1 : ((spec_FieldOf.f kj2 l0).bind fun t431 => ((spec_FieldOf.f kj2 l1).bind fun t432 => ((some (([7] : List Int) : List Int)).bind fun y433 => (if y433.length + l1.length < 140737488355328 then ((spec_FieldOf.f kj2 (y433 ++ l1)).bind fun t439 => ((impl_Add.f t431 t432).bind fun bt440 => ((impl_Mul.f t431 t432).bind fun bt442 => ((impl_Sub.f bt440.1 t432).bind fun bt444 => ((impl_Mul.f bt440.1 t439).bind fun bt446 => ((impl_Mul.f t431 t439).bind fun bt448 => ((impl_Mul.f t432 t439).bind fun bt450 => ((impl_Add.f bt448.1 bt450.1).bind fun bt452 => ((impl_Mul.f t432 t431).bind fun bt454 => ((spec_Mul.f t431 t432).bind fun bt456 => (if bt440.2 = 0 then (if bt442.2 = 0 then (if bt444.2 = 0 then (if bt446.2 = 0 then (if bt448.2 = 0 then (if bt450.2 = 0 then (if bt452.2 = 0 then (if bt454.2 = 0 then (if bt442.1 = bt456.1 then (if bt444.1 = t431 then (if bt446.1 = bt452.1 then (if bt454.1 = bt442.1 then ((impl_FieldOK.f bt440.1).bind fun t458 => (if t458 = true then ((impl_FieldOK.f bt442.1).bind fun t459 => (laws_FnField.j1 kj2 t431 (!t459))) else (laws_FnField.j1 kj2 t431 true))) else (laws_FnField.j1 kj2 t431 true)) else (laws_FnField.j1 kj2 t431 true)) else (laws_FnField.j1 kj2 t431 true)) else (laws_FnField.j1 kj2 t431 true)) else (laws_FnField.j1 kj2 t431 true)) else (laws_FnField.j1 kj2 t431 true)) else (laws_FnField.j1 kj2 t431 true)) else (laws_FnField.j1 kj2 t431 true)) else (laws_FnField.j1 kj2 t431 true)) else (laws_FnField.j1 kj2 t431 true)) else (laws_FnField.j1 kj2 t431 true)) else (laws_FnField.j1 kj2 t431 true)))))))))))) else (none))))) = some r := by rw [if_neg (show ¬ (false = true) by decide)] at H; exact H
        clear H
        have H := H1
        clear H1
        replace H := Option.bind_eq_some_iff.mp H
        obtain ⟨t431, A60, H⟩ := H
        replace H : ((spec_FieldOf.f kj2 l1).bind fun t432 => ((some (([7] : List Int) : List Int)).bind fun y433 => (if y433.length + l1.length < 140737488355328 then ((spec_FieldOf.f kj2 (y433 ++ l1)).bind fun t439 => ((impl_Add.f t431 t432).bind fun bt440 => ((impl_Mul.f t431 t432).bind fun bt442 => ((impl_Sub.f bt440.1 t432).bind fun bt444 => ((impl_Mul.f bt440.1 t439).bind fun bt446 => ((impl_Mul.f t431 t439).bind fun bt448 => ((impl_Mul.f t432 t439).bind fun bt450 => ((impl_Add.f bt448.1 bt450.1).bind fun bt452 => ((impl_Mul.f t432 t431).bind fun bt454 => ((spec_Mul.f t431 t432).bind fun bt456 => (if bt440.2 = 0 then (if bt442.2 = 0 then (if bt444.2 = 0 then (if bt446.2 = 0 then (if bt448.2 = 0 then (if bt450.2 = 0 then (if bt452.2 = 0 then (if bt454.2 = 0 then (if bt442.1 = bt456.1 then (if bt444.1 = t431 then (if bt446.1 = bt452.1 then (if bt454.1 = bt442.1 then ((impl_FieldOK.f bt440.1).bind fun t458 => (if t458 = true then ((impl_FieldOK.f bt442.1).bind fun t459 => (laws_FnField.j1 kj2 t431 (!t459))) else (laws_FnField.j1 kj2 t431 true))) else (laws_FnField.j1 kj2 t431 true)) else (laws_FnField.j1 kj2 t431 true)) else (laws_FnField.j1 kj2 t431 true)) else (laws_FnField.j1 kj2 t431 true)) else (laws_FnField.j1 kj2 t431 true)) else (laws_FnField.j1 kj2 t431 true)) else (laws_FnField.j1 kj2 t431 true)) else (laws_FnField.j1 kj2 t431 true)) else (laws_FnField.j1 kj2 t431 true)) else (laws_FnField.j1 kj2 t431 true)) else (laws_FnField.j1 kj2 t431 true)) else (laws_FnField.j1 kj2 t431 true)))))))))))) else (none)))) = some r := H
        have A6 := Aside0.mk A60
        clear A60
        replace H := Option.bind_eq_some_iff.mp H
        obtain ⟨t432, A70, H⟩ := H
        replace H : ((some (([7] : List Int) : List Int)).bind fun y433 => (if y433.length + l1.length < 140737488355328 then ((spec_FieldOf.f kj2 (y433 ++ l1)).bind fun t439 => ((impl_Add.f t431 t432).bind fun bt440 => ((impl_Mul.f t431 t432).bind fun bt442 => ((impl_Sub.f bt440.1 t432).bind fun bt444 => ((impl_Mul.f bt440.1 t439).bind fun bt446 => ((impl_Mul.f t431 t439).bind fun bt448 => ((impl_Mul.f t432 t439).bind fun bt450 => ((impl_Add.f bt448.1 bt450.1).bind fun bt452 => ((impl_Mul.f t432 t431).bind fun bt454 => ((spec_Mul.f t431 t432).bind fun bt456 => (if bt440.2 = 0 then (if bt442.2 = 0 then (if bt444.2 = 0 then (if bt446.2 = 0 then (if bt448.2 = 0 then (if bt450.2 = 0 then (if bt452.2 = 0 then (if bt454.2 = 0 then (if bt442.1 = bt456.1 then (if bt444.1 = t431 then (if bt446.1 = bt452.1 then (if bt454.1 = bt442.1 then ((impl_FieldOK.f bt440.1).bind fun t458 => (if t458 = true then ((impl_FieldOK.f bt442.1).bind fun t459 => (laws_FnField.j1 kj2 t431 (!t459))) else (laws_FnField.j1 kj2 t431 true))) else (laws_FnField.j1 kj2 t431 true)) else (laws_FnField.j1 kj2 t431 true)) else (laws_FnField.j1 kj2 t431 true)) else (laws_FnField.j1 kj2 t431 true)) else (laws_FnField.j1 kj2 t431 true)) else (laws_FnField.j1 kj2 t431 true)) else (laws_FnField.j1 kj2 t431 true)) else (laws_FnField.j1 kj2 t431 true)) else (laws_FnField.j1 kj2 t431 true)) else (laws_FnField.j1 kj2 t431 true)) else (laws_FnField.j1 kj2 t431 true)) else (laws_FnField.j1 kj2 t431 true)))))))))))) else (none))) = some r := H
        have A7 := Aside0.mk A70
        clear A70
        obtain ⟨y433, hy433⟩ : ∃ y_ : List Int, y_ = (([7] : List Int)) := ⟨_, rfl⟩
        replace H : (if y433.length + l1.length < 140737488355328 then ((spec_FieldOf.f kj2 (y433 ++ l1)).bind fun t439 => ((impl_Add.f t431 t432).bind fun bt440 => ((impl_Mul.f t431 t432).bind fun bt442 => ((impl_Sub.f bt440.1 t432).bind fun bt444 => ((impl_Mul.f bt440.1 t439).bind fun bt446 => ((impl_Mul.f t431 t439).bind fun bt448 => ((impl_Mul.f t432 t439).bind fun bt450 => ((impl_Add.f bt448.1 bt450.1).bind fun bt452 => ((impl_Mul.f t432 t431).bind fun bt454 => ((spec_Mul.f t431 t432).bind fun bt456 => (if bt440.2 = 0 then (if bt442.2 = 0 then (if bt444.2 = 0 then (if bt446.2 = 0 then (if bt448.2 = 0 then (if bt450.2 = 0 then (if bt452.2 = 0 then (if bt454.2 = 0 then (if bt442.1 = bt456.1 then (if bt444.1 = t431 then (if bt446.1 = bt452.1 then (if bt454.1 = bt442.1 then ((impl_FieldOK.f bt440.1).bind fun t458 => (if t458 = true then ((impl_FieldOK.f bt442.1).bind fun t459 => (laws_FnField.j1 kj2 t431 (!t459))) else (laws_FnField.j1 kj2 t431 true))) else (laws_FnField.j1 kj2 t431 true)) else (laws_FnField.j1 kj2 t431 true)) else (laws_FnField.j1 kj2 t431 true)) else (laws_FnField.j1 kj2 t431 true)) else (laws_FnField.j1 kj2 t431 true)) else (laws_FnField.j1 kj2 t431 true)) else (laws_FnField.j1 kj2 t431 true)) else (laws_FnField.j1 kj2 t431 true)) else (laws_FnField.j1 kj2 t431 true)) else (laws_FnField.j1 kj2 t431 true)) else (laws_FnField.j1 kj2 t431 true)) else (laws_FnField.j1 kj2 t431 true)))))))))))) else (none)) = some r := by first | (rw [hy433]; with_reducible exact H) | (have H2_ := (Option.bind_some _ _).symm.trans H; rw [hy433]; with_reducible exact H2_) | (have H2_ := (Option.bind_some _ _).symm.trans H; with_reducible exact H2_) | with_reducible exact H | (rw [hy433]; exact H) | exact H
        have Ny433 := Aside0.mk hy433
        clear hy433
        by_cases c8 : y433.length + l1.length < 140737488355328
        · rw [if_pos c8] at H
          have LMc8 := Aside0.mk c8
          clear c8
          obtain ⟨y436, hy436⟩ : ∃ y_ : List Int, y_ = (y433 ++ l1) := ⟨_, rfl⟩
          replace H : ((spec_FieldOf.f kj2 y436).bind fun t439 => ((impl_Add.f t431 t432).bind fun bt440 => ((impl_Mul.f t431 t432).bind fun bt442 => ((impl_Sub.f bt440.1 t432).bind fun bt444 => ((impl_Mul.f bt440.1 t439).bind fun bt446 => ((impl_Mul.f t431 t439).bind fun bt448 => ((impl_Mul.f t432 t439).bind fun bt450 => ((impl_Add.f bt448.1 bt450.1).bind fun bt452 => ((impl_Mul.f t432 t431).bind fun bt454 => ((spec_Mul.f t431 t432).bind fun bt456 => (if bt440.2 = 0 then (if bt442.2 = 0 then (if bt444.2 = 0 then (if bt446.2 = 0 then (if bt448.2 = 0 then (if bt450.2 = 0 then (if bt452.2 = 0 then (if bt454.2 = 0 then (if bt442.1 = bt456.1 then (if bt444.1 = t431 then (if bt446.1 = bt452.1 then (if bt454.1 = bt442.1 then ((impl_FieldOK.f bt440.1).bind fun t458 => (if t458 = true then ((impl_FieldOK.f bt442.1).bind fun t459 => (laws_FnField.j1 kj2 t431 (!t459))) else (laws_FnField.j1 kj2 t431 true))) else (laws_FnField.j1 kj2 t431 true)) else (laws_FnField.j1 kj2 t431 true)) else (laws_FnField.j1 kj2 t431 true)) else (laws_FnField.j1 kj2 t431 true)) else (laws_FnField.j1 kj2 t431 true)) else (laws_FnField.j1 kj2 t431 true)) else (laws_FnField.j1 kj2 t431 true)) else (laws_FnField.j1 kj2 t431 true)) else (laws_FnField.j1 kj2 t431 true)) else (laws_FnField.j1 kj2 t431 true)) else (laws_FnField.j1 kj2 t431 true)) else (laws_FnField.j1 kj2 t431 true)))))))))))) = some r := by first | (rw [hy436]; with_reducible exact H) | (have H2_ := (Option.bind_some _ _).symm.trans H; rw [hy436]; with_reducible exact H2_) | (have H2_ := (Option.bind_some _ _).symm.trans H; with_reducible exact H2_) | with_reducible exact H | (rw [hy436]; exact H) | exact H
          have Ny436 := Aside0.mk hy436
          clear hy436
          replace H := Option.bind_eq_some_iff.mp H
          obtain ⟨t439, A90, H⟩ := H
          replace H : ((impl_Add.f t431 t432).bind fun bt440 => ((impl_Mul.f t431 t432).bind fun bt442 => ((impl_Sub.f bt440.1 t432).bind fun bt444 => ((impl_Mul.f bt440.1 t439).bind fun bt446 => ((impl_Mul.f t431 t439).bind fun bt448 => ((impl_Mul.f t432 t439).bind fun bt450 => ((impl_Add.f bt448.1 bt450.1).bind fun bt452 => ((impl_Mul.f t432 t431).bind fun bt454 => ((spec_Mul.f t431 t432).bind fun bt456 => (if bt440.2 = 0 then (if bt442.2 = 0 then (if bt444.2 = 0 then (if bt446.2 = 0 then (if bt448.2 = 0 then (if bt450.2 = 0 then (if bt452.2 = 0 then (if bt454.2 = 0 then (if bt442.1 = bt456.1 then (if bt444.1 = t431 then (if bt446.1 = bt452.1 then (if bt454.1 = bt442.1 then ((impl_FieldOK.f bt440.1).bind fun t458 => (if t458 = true then ((impl_FieldOK.f bt442.1).bind fun t459 => (laws_FnField.j1 kj2 t431 (!t459))) else (laws_FnField.j1 kj2 t431 true))) else (laws_FnField.j1 kj2 t431 true)) else (laws_FnField.j1 kj2 t431 true)) else (laws_FnField.j1 kj2 t431 true)) else (laws_FnField.j1 kj2 t431 true)) else (laws_FnField.j1 kj2 t431 true)) else (laws_FnField.j1 kj2 t431 true)) else (laws_FnField.j1 kj2 t431 true)) else (laws_FnField.j1 kj2 t431 true)) else (laws_FnField.j1 kj2 t431 true)) else (laws_FnField.j1 kj2 t431 true)) else (laws_FnField.j1 kj2 t431 true)) else (laws_FnField.j1 kj2 t431 true))))))))))) = some r := H
          have A9 := Aside0.mk A90
          clear A90
          replace H := Option.bind_eq_some_iff.mp H
          obtain ⟨⟨t440, t441⟩, A100, H⟩ := H
          replace H : ((impl_Mul.f t431 t432).bind fun bt442 => ((impl_Sub.f t440 t432).bind fun bt444 => ((impl_Mul.f t440 t439).bind fun bt446 => ((impl_Mul.f t431 t439).bind fun bt448 => ((impl_Mul.f t432 t439).bind fun bt450 => ((impl_Add.f bt448.1 bt450.1).bind fun bt452 => ((impl_Mul.f t432 t431).bind fun bt454 => ((spec_Mul.f t431 t432).bind fun bt456 => (if t441 = 0 then (if bt442.2 = 0 then (if bt444.2 = 0 then (if bt446.2 = 0 then (if bt448.2 = 0 then (if bt450.2 = 0 then (if bt452.2 = 0 then (if bt454.2 = 0 then (if bt442.1 = bt456.1 then (if bt444.1 = t431 then (if bt446.1 = bt452.1 then (if bt454.1 = bt442.1 then ((impl_FieldOK.f t440).bind fun t458 => (if t458 = true then ((impl_FieldOK.f bt442.1).bind fun t459 => (laws_FnField.j1 kj2 t431 (!t459))) else (laws_FnField.j1 kj2 t431 true))) else (laws_FnField.j1 kj2 t431 true)) else (laws_FnField.j1 kj2 t431 true)) else (laws_FnField.j1 kj2 t431 true)) else (laws_FnField.j1 kj2 t431 true)) else (laws_FnField.j1 kj2 t431 true)) else (laws_FnField.j1 kj2 t431 true)) else (laws_FnField.j1 kj2 t431 true)) else (laws_FnField.j1 kj2 t431 true)) else (laws_FnField.j1 kj2 t431 true)) else (laws_FnField.j1 kj2 t431 true)) else (laws_FnField.j1 kj2 t431 true)) else (laws_FnField.j1 kj2 t431 true)))))))))) = some r := H
          have A10 := Aside0.mk A100
          clear A100
          replace H := Option.bind_eq_some_iff.mp H
          obtain ⟨⟨t442, t443⟩, A110, H⟩ := H
          replace H : ((impl_Sub.f t440 t432).bind fun bt444 => ((impl_Mul.f t440 t439).bind fun bt446 => ((impl_Mul.f t431 t439).bind fun bt448 => ((impl_Mul.f t432 t439).bind fun bt450 => ((impl_Add.f bt448.1 bt450.1).bind fun bt452 => ((impl_Mul.f t432 t431).bind fun bt454 => ((spec_Mul.f t431 t432).bind fun bt456 => (if t441 = 0 then (if t443 = 0 then (if bt444.2 = 0 then (if bt446.2 = 0 then (if bt448.2 = 0 then (if bt450.2 = 0 then (if bt452.2 = 0 then (if bt454.2 = 0 then (if t442 = bt456.1 then (if bt444.1 = t431 then (if bt446.1 = bt452.1 then (if bt454.1 = t442 then ((impl_FieldOK.f t440).bind fun t458 => (if t458 = true then ((impl_FieldOK.f t442).bind fun t459 => (laws_FnField.j1 kj2 t431 (!t459))) else (laws_FnField.j1 kj2 t431 true))) else (laws_FnField.j1 kj2 t431 true)) else (laws_FnField.j1 kj2 t431 true)) else (laws_FnField.j1 kj2 t431 true)) else (laws_FnField.j1 kj2 t431 true)) else (laws_FnField.j1 kj2 t431 true)) else (laws_FnField.j1 kj2 t431 true)) else (laws_FnField.j1 kj2 t431 true)) else (laws_FnField.j1 kj2 t431 true)) else (laws_FnField.j1 kj2 t431 true)) else (laws_FnField.j1 kj2 t431 true)) else (laws_FnField.j1 kj2 t431 true)) else (laws_FnField.j1 kj2 t431 true))))))))) = some r := H
          have A11 := Aside0.mk A110
          clear A110
          replace H := Option.bind_eq_some_iff.mp H
          obtain ⟨⟨t444, t445⟩, A120, H⟩ := H
          replace H : ((impl_Mul.f t440 t439).bind fun bt446 => ((impl_Mul.f t431 t439).bind fun bt448 => ((impl_Mul.f t432 t439).bind fun bt450 => ((impl_Add.f bt448.1 bt450.1).bind fun bt452 => ((impl_Mul.f t432 t431).bind fun bt454 => ((spec_Mul.f t431 t432).bind fun bt456 => (if t441 = 0 then (if t443 = 0 then (if t445 = 0 then (if bt446.2 = 0 then (if bt448.2 = 0 then (if bt450.2 = 0 then (if bt452.2 = 0 then (if bt454.2 = 0 then (if t442 = bt456.1 then (if t444 = t431 then (if bt446.1 = bt452.1 then (if bt454.1 = t442 then ((impl_FieldOK.f t440).bind fun t458 => (if t458 = true then ((impl_FieldOK.f t442).bind fun t459 => (laws_FnField.j1 kj2 t431 (!t459))) else (laws_FnField.j1 kj2 t431 true))) else (laws_FnField.j1 kj2 t431 true)) else (laws_FnField.j1 kj2 t431 true)) else (laws_FnField.j1 kj2 t431 true)) else (laws_FnField.j1 kj2 t431 true)) else (laws_FnField.j1 kj2 t431 true)) else (laws_FnField.j1 kj2 t431 true)) else (laws_FnField.j1 kj2 t431 true)) else (laws_FnField.j1 kj2 t431 true)) else (laws_FnField.j1 kj2 t431 true)) else (laws_FnField.j1 kj2 t431 true)) else (laws_FnField.j1 kj2 t431 true)) else (laws_FnField.j1 kj2 t431 true)))))))) = some r := H
          have A12 := Aside0.mk A120
          clear A120
          replace H := Option.bind_eq_some_iff.mp H
          obtain ⟨⟨t446, t447⟩, A130, H⟩ := H
          replace H : ((impl_Mul.f t431 t439).bind fun bt448 => ((impl_Mul.f t432 t439).bind fun bt450 => ((impl_Add.f bt448.1 bt450.1).bind fun bt452 => ((impl_Mul.f t432 t431).bind fun bt454 => ((spec_Mul.f t431 t432).bind fun bt456 => (if t441 = 0 then (if t443 = 0 then (if t445 = 0 then (if t447 = 0 then (if bt448.2 = 0 then (if bt450.2 = 0 then (if bt452.2 = 0 then (if bt454.2 = 0 then (if t442 = bt456.1 then (if t444 = t431 then (if t446 = bt452.1 then (if bt454.1 = t442 then ((impl_FieldOK.f t440).bind fun t458 => (if t458 = true then ((impl_FieldOK.f t442).bind fun t459 => (laws_FnField.j1 kj2 t431 (!t459))) else (laws_FnField.j1 kj2 t431 true))) else (laws_FnField.j1 kj2 t431 true)) else (laws_FnField.j1 kj2 t431 true)) else (laws_FnField.j1 kj2 t431 true)) else (laws_FnField.j1 kj2 t431 true)) else (laws_FnField.j1 kj2 t431 true)) else (laws_FnField.j1 kj2 t431 true)) else (laws_FnField.j1 kj2 t431 true)) else (laws_FnField.j1 kj2 t431 true)) else (laws_FnField.j1 kj2 t431 true)) else (laws_FnField.j1 kj2 t431 true)) else (laws_FnField.j1 kj2 t431 true)) else (laws_FnField.j1 kj2 t431 true))))))) = some r := H
          have A13 := Aside0.mk A130
          clear A130
          replace H := Option.bind_eq_some_iff.mp H
          obtain ⟨⟨t448, t449⟩, A140, H⟩ := H
          replace H : ((impl_Mul.f t432 t439).bind fun bt450 => ((impl_Add.f t448 bt450.1).bind fun bt452 => ((impl_Mul.f t432 t431).bind fun bt454 => ((spec_Mul.f t431 t432).bind fun bt456 => (if t441 = 0 then (if t443 = 0 then (if t445 = 0 then (if t447 = 0 then (if t449 = 0 then (if bt450.2 = 0 then (if bt452.2 = 0 then (if bt454.2 = 0 then (if t442 = bt456.1 then (if t444 = t431 then (if t446 = bt452.1 then (if bt454.1 = t442 then ((impl_FieldOK.f t440).bind fun t458 => (if t458 = true then ((impl_FieldOK.f t442).bind fun t459 => (laws_FnField.j1 kj2 t431 (!t459))) else (laws_FnField.j1 kj2 t431 true))) else (laws_FnField.j1 kj2 t431 true)) else (laws_FnField.j1 kj2 t431 true)) else (laws_FnField.j1 kj2 t431 true)) else (laws_FnField.j1 kj2 t431 true)) else (laws_FnField.j1 kj2 t431 true)) else (laws_FnField.j1 kj2 t431 true)) else (laws_FnField.j1 kj2 t431 true)) else (laws_FnField.j1 kj2 t431 true)) else (laws_FnField.j1 kj2 t431 true)) else (laws_FnField.j1 kj2 t431 true)) else (laws_FnField.j1 kj2 t431 true)) else (laws_FnField.j1 kj2 t431 true)))))) = some r := H
          have A14 := Aside0.mk A140
          clear A140
          replace H := Option.bind_eq_some_iff.mp H
          obtain ⟨⟨t450, t451⟩, A150, H⟩ := H
          replace H : ((impl_Add.f t448 t450).bind fun bt452 => ((impl_Mul.f t432 t431).bind fun bt454 => ((spec_Mul.f t431 t432).bind fun bt456 => (if t441 = 0 then (if t443 = 0 then (if t445 = 0 then (if t447 = 0 then (if t449 = 0 then (if t451 = 0 then (if bt452.2 = 0 then (if bt454.2 = 0 then (if t442 = bt456.1 then (if t444 = t431 then (if t446 = bt452.1 then (if bt454.1 = t442 then ((impl_FieldOK.f t440).bind fun t458 => (if t458 = true then ((impl_FieldOK.f t442).bind fun t459 => (laws_FnField.j1 kj2 t431 (!t459))) else (laws_FnField.j1 kj2 t431 true))) else (laws_FnField.j1 kj2 t431 true)) else (laws_FnField.j1 kj2 t431 true)) else (laws_FnField.j1 kj2 t431 true)) else (laws_FnField.j1 kj2 t431 true)) else (laws_FnField.j1 kj2 t431 true)) else (laws_FnField.j1 kj2 t431 true)) else (laws_FnField.j1 kj2 t431 true)) else (laws_FnField.j1 kj2 t431 true)) else (laws_FnField.j1 kj2 t431 true)) else (laws_FnField.j1 kj2 t431 true)) else (laws_FnField.j1 kj2 t431 true)) else (laws_FnField.j1 kj2 t431 true))))) = some r := H
          have A15 := Aside0.mk A150
          clear A150
          replace H := Option.bind_eq_some_iff.mp H
          obtain ⟨⟨t452, t453⟩, A160, H⟩ := H
          replace H : ((impl_Mul.f t432 t431).bind fun bt454 => ((spec_Mul.f t431 t432).bind fun bt456 => (if t441 = 0 then (if t443 = 0 then (if t445 = 0 then (if t447 = 0 then (if t449 = 0 then (if t451 = 0 then (if t453 = 0 then (if bt454.2 = 0 then (if t442 = bt456.1 then (if t444 = t431 then (if t446 = t452 then (if bt454.1 = t442 then ((impl_FieldOK.f t440).bind fun t458 => (if t458 = true then ((impl_FieldOK.f t442).bind fun t459 => (laws_FnField.j1 kj2 t431 (!t459))) else (laws_FnField.j1 kj2 t431 true))) else (laws_FnField.j1 kj2 t431 true)) else (laws_FnField.j1 kj2 t431 true)) else (laws_FnField.j1 kj2 t431 true)) else (laws_FnField.j1 kj2 t431 true)) else (laws_FnField.j1 kj2 t431 true)) else (laws_FnField.j1 kj2 t431 true)) else (laws_FnField.j1 kj2 t431 true)) else (laws_FnField.j1 kj2 t431 true)) else (laws_FnField.j1 kj2 t431 true)) else (laws_FnField.j1 kj2 t431 true)) else (laws_FnField.j1 kj2 t431 true)) else (laws_FnField.j1 kj2 t431 true)))) = some r := H
          have A16 := Aside0.mk A160
          clear A160
          replace H := Option.bind_eq_some_iff.mp H
          obtain ⟨⟨t454, t455⟩, A170, H⟩ := H
          replace H : ((spec_Mul.f t431 t432).bind fun bt456 => (if t441 = 0 then (if t443 = 0 then (if t445 = 0 then (if t447 = 0 then (if t449 = 0 then (if t451 = 0 then (if t453 = 0 then (if t455 = 0 then (if t442 = bt456.1 then (if t444 = t431 then (if t446 = t452 then (if t454 = t442 then ((impl_FieldOK.f t440).bind fun t458 => (if t458 = true then ((impl_FieldOK.f t442).bind fun t459 => (laws_FnField.j1 kj2 t431 (!t459))) else (laws_FnField.j1 kj2 t431 true))) else (laws_FnField.j1 kj2 t431 true)) else (laws_FnField.j1 kj2 t431 true)) else (laws_FnField.j1 kj2 t431 true)) else (laws_FnField.j1 kj2 t431 true)) else (laws_FnField.j1 kj2 t431 true)) else (laws_FnField.j1 kj2 t431 true)) else (laws_FnField.j1 kj2 t431 true)) else (laws_FnField.j1 kj2 t431 true)) else (laws_FnField.j1 kj2 t431 true)) else (laws_FnField.j1 kj2 t431 true)) else (laws_FnField.j1 kj2 t431 true)) else (laws_FnField.j1 kj2 t431 true))) = some r := H
          have A17 := Aside0.mk A170
          clear A170
          replace H := Option.bind_eq_some_iff.mp H
          obtain ⟨⟨t456, t457⟩, A180, H⟩ := H
          replace H : (if t441 = 0 then (if t443 = 0 then (if t445 = 0 then (if t447 = 0 then (if t449 = 0 then (if t451 = 0 then (if t453 = 0 then (if t455 = 0 then (if t442 = t456 then (if t444 = t431 then (if t446 = t452 then (if t454 = t442 then ((impl_FieldOK.f t440).bind fun t458 => (if t458 = true then ((impl_FieldOK.f t442).bind fun t459 => (laws_FnField.j1 kj2 t431 (!t459))) else (laws_FnField.j1 kj2 t431 true))) else (laws_FnField.j1 kj2 t431 true)) else (laws_FnField.j1 kj2 t431 true)) else (laws_FnField.j1 kj2 t431 true)) else (laws_FnField.j1 kj2 t431 true)) else (laws_FnField.j1 kj2 t431 true)) else (laws_FnField.j1 kj2 t431 true)) else (laws_FnField.j1 kj2 t431 true)) else (laws_FnField.j1 kj2 t431 true)) else (laws_FnField.j1 kj2 t431 true)) else (laws_FnField.j1 kj2 t431 true)) else (laws_FnField.j1 kj2 t431 true)) else (laws_FnField.j1 kj2 t431 true)) = some r := H
          have A18 := Aside0.mk A180
          clear A180
          have HC19 := Aside0.mk H
          clear H
          go_upto_region 15 with (first | ((with_reducible refine gate_callee (f := 39) rfl ?_); refine goesL_ (some 41) rfl rfl Try.func39 (by kernel_rfl) rfl #[.slice A0 l0.length c0] rfl (by (try simp only [List.map_toArray, List.map_cons, List.map_nil]); first | done | rfl | (simp only [List.length_drop, List.length_take]; rfl)) ?_; (with_reducible refine (spec_FieldOf.calls kj2 _ _ l0 t431 _ ?side1 ?side2 A6.out).mono ?_); (case side1 => repeat (first | exact (Kd.C_below HR0.out HB.out) | (with_reducible refine Kd.C_alloc ?_ _) | (with_reducible refine Kd.C_drewN ?_ _) | (with_reducible refine Kd.C_drew ?_))); (case side2 => exact HC0.out); rintro e w20 ⟨rfl, hb⟩; refine ⟨_, rfl, ?_⟩; have n0_ := Aside0.mk (below_step (by repeat (first | (with_reducible first | exact HB.out | apply below_alloc | apply pw_below_drewN | apply below_drew1) | exact HB.out)) hb); clear HB; have HB := n0_; clear n0_; (try clear hb); (try clear hb2); (try clear hk); (try clear hi)) | ((with_reducible refine gate_callee (f := 39) rfl ?_); refine goesL_ (some 43) rfl rfl Try.func39 (by kernel_rfl) rfl #[.slice A1 l1.length c1] rfl (by (try simp only [List.map_toArray, List.map_cons, List.map_nil]); first | done | rfl | (simp only [List.length_drop, List.length_take]; rfl)) ?_; (with_reducible refine (spec_FieldOf.calls kj2 _ _ l1 t432 _ ?side1 ?side2 A7.out).mono ?_); (case side1 => repeat (first | exact (Kd.C_below HR1.out HB.out) | (with_reducible refine Kd.C_alloc ?_ _) | (with_reducible refine Kd.C_drewN ?_ _) | (with_reducible refine Kd.C_drew ?_))); (case side2 => exact HC1.out); rintro e w21 ⟨rfl, hb⟩; refine ⟨_, rfl, ?_⟩; have n0_ := Aside0.mk (below_step (by repeat (first | (with_reducible first | exact HB.out | apply below_alloc | apply pw_below_drewN | apply below_drew1) | exact HB.out)) hb); clear HB; have HB := n0_; clear n0_; (try clear hb); (try clear hb2); (try clear hk); (try clear hi)) | ((with_reducible refine gate_dst (N := 44) rfl ?_); (try (refine gate_guard (by rfl) ?_; dsimp only)); refine Kd.R_lit (Kd.int .u8) _ 5 ?hg (N := 44) ?hd (xs := ([7] : List Int)) (inner := [.int .u8 7]) (ok := fun _ => True) (okp := fun _ => True) ?hr ?hp (fun _ hk => hk) trivial (Below.refl _ _) (Nat.le_refl _) (by simp) ?_; (case hd => rfl); (case hg => rfl); (case hr => first | (go_simp; done) | (go_simp; rfl)); (case hp => exact (Reps.one (show Kd.M (Kd.int .u8) _ _ _ 7 [.int .u8 7] from rfl) (Reps.none _ _))); intro v434 w22 ho23 hb hg_ hnew_; clear hg_ hnew_; (first | rw [← Ny433.out] at ho23 | (simp only [Int.reduceToNat] at ho23; rw [← Ny433.out] at ho23)); have n0_ := Aside0.mk (Kd.R_lower ho23 (below_size (by repeat (first | (with_reducible first | exact HB.out | apply below_alloc | apply pw_below_drewN | apply below_drew1) | exact HB.out)))); have n1_ := Aside0.mk (below_step (by repeat (first | (with_reducible first | exact HB.out | apply below_alloc | apply pw_below_drewN | apply below_drew1) | exact HB.out)) hb); clear HB; have HO435 := n0_; have HB := n1_; clear n0_ n1_; clear hb ho23) | ((with_reducible refine gate_builtin (b := .append) (xs := #[.tmp 44, .tmp 45]) rfl ?_); (try (refine gate_guard (by rfl) ?_; dsimp only)); at_builtin; refine Kd.R_append_rows (Kd.int .u8) (w0 := w) w.heap.size rfl (.tmp 44) (.tmp 45) 35 5 (.int .u8 0) 1 rfl Try.underlying35 info5 rfl (by decide) (by omega) v434 y433 l1 _ _ _ (fun _ => True) (fun _ => False) rfl rfl ?aO ?aR (fun _ _ h => h) (fun _ h => h.elim) ?aF ?aB ?aS ?aL ?_; (case aR => repeat (first | exact (Kd.C_below HR1.out HB.out) | (with_reducible refine Kd.C_alloc ?_ _) | (with_reducible refine Kd.C_drewN ?_ _) | (with_reducible refine Kd.C_drew ?_))); (case aB => exact (by repeat (first | (with_reducible first | exact HB.out | apply below_alloc | apply pw_below_drewN | apply below_drew1) | exact HB.out))); (case aF => exact (fun _ _ => trivial)); (case aO => exact (by (with_reducible repeat (first | apply Kd.R_alloc | apply Kd.R_drewN | apply Kd.R_drew)); exact HO435.out)); (case aS => exact (below_size (by repeat (first | (with_reducible first | exact HB.out | apply below_alloc | apply pw_below_drewN | apply below_drew1) | exact HB.out)))); (case aL => have := LMc8.out; omega); intro v437 w24 ho hb hg hat; rw [← Ny436.out] at ho; have n0_ := Aside0.mk (hb); have n1_ := Aside0.mk (ho); clear HB; clear HO435; have HB := n0_; have HO438 := n1_; clear n0_ n1_; clear ho hb hg hat; obtain ⟨Ao25, co25, eo25⟩ := Kd.R_slice HO438.out; subst eo25) | ((with_reducible refine gate_callee (f := 39) rfl ?_); refine goesL_ (some 47) rfl rfl Try.func39 (by kernel_rfl) rfl #[.slice Ao25 y436.length co25] rfl (by (try simp only [List.map_toArray, List.map_cons, List.map_nil]); first | done | rfl | (simp only [List.length_drop, List.length_take]; rfl)) ?_; (with_reducible refine (spec_FieldOf.calls kj2 _ _ y436 t439 _ ?side1 ?side2 A9.out).mono ?_); (case side1 => repeat (first | exact (Kd.R_reads' HO438.out).2.2 | (with_reducible refine Kd.C_alloc ?_ _) | (with_reducible refine Kd.C_drewN ?_ _) | (with_reducible refine Kd.C_drew ?_))); (case side2 => exact (Kd.R_reads' HO438.out).2.1); rintro e w26 ⟨rfl, hb⟩; refine ⟨_, rfl, ?_⟩; have n0_ := Aside0.mk (Kd.R_below (by (with_reducible repeat (first | apply Kd.R_alloc | apply Kd.R_drewN | apply Kd.R_drew)); exact HO438.out) hb); have n1_ := Aside0.mk (below_step (by repeat (first | (with_reducible first | exact HB.out | apply below_alloc | apply pw_below_drewN | apply below_drew1) | exact HB.out)) hb); clear HO438; clear HB; have HO438 := n0_; have HB := n1_; clear n0_ n1_; (try clear hb); (try clear hb2); (try clear hk); (try clear hi)) | ((with_reducible refine gate_callee (f := 40) rfl ?_); refine goesL_ (some 51) rfl rfl Try.func40 (by kernel_rfl) rfl #[.int .i64 t431, .int .i64 t432] rfl (by (try simp only [List.map_toArray, List.map_cons, List.map_nil]); first | done | rfl | (simp only [List.length_drop, List.length_take]; rfl)) ?_; (with_reducible refine (impl_Add.calls t431 t432 t440 t441 _ A10.out).mono ?_); rintro e w' ⟨rfl, ⟨nd, rfl⟩⟩; refine ⟨_, rfl, ?_⟩) | ((with_reducible refine gate_callee (f := 33) rfl ?_); refine goesL_ (some 57) rfl rfl Try.func33 (by kernel_rfl) rfl #[.int .i64 t431, .int .i64 t432] rfl (by (try simp only [List.map_toArray, List.map_cons, List.map_nil]); first | done | rfl | (simp only [List.length_drop, List.length_take]; rfl)) ?_; (with_reducible refine (impl_Mul.calls t431 t432 t442 t443 _ A11.out).mono ?_); rintro e w' ⟨rfl, ⟨nd, rfl⟩⟩; refine ⟨_, rfl, ?_⟩) | ((with_reducible refine gate_callee (f := 41) rfl ?_); refine goesL_ (some 63) rfl rfl Try.func41 (by kernel_rfl) rfl #[.int .i64 t440, .int .i64 t432] rfl (by (try simp only [List.map_toArray, List.map_cons, List.map_nil]); first | done | rfl | (simp only [List.length_drop, List.length_take]; rfl)) ?_; (with_reducible refine (impl_Sub.calls t440 t432 t444 t445 _ A12.out).mono ?_); rintro e w' ⟨rfl, ⟨nd, rfl⟩⟩; refine ⟨_, rfl, ?_⟩) | ((with_reducible refine gate_callee (f := 33) rfl ?_); refine goesL_ (some 69) rfl rfl Try.func33 (by kernel_rfl) rfl #[.int .i64 t440, .int .i64 t439] rfl (by (try simp only [List.map_toArray, List.map_cons, List.map_nil]); first | done | rfl | (simp only [List.length_drop, List.length_take]; rfl)) ?_; (with_reducible refine (impl_Mul.calls t440 t439 t446 t447 _ A13.out).mono ?_); rintro e w' ⟨rfl, ⟨nd, rfl⟩⟩; refine ⟨_, rfl, ?_⟩) | ((with_reducible refine gate_callee (f := 33) rfl ?_); refine goesL_ (some 75) rfl rfl Try.func33 (by kernel_rfl) rfl #[.int .i64 t431, .int .i64 t439] rfl (by (try simp only [List.map_toArray, List.map_cons, List.map_nil]); first | done | rfl | (simp only [List.length_drop, List.length_take]; rfl)) ?_; (with_reducible refine (impl_Mul.calls t431 t439 t448 t449 _ A14.out).mono ?_); rintro e w' ⟨rfl, ⟨nd, rfl⟩⟩; refine ⟨_, rfl, ?_⟩) | ((with_reducible refine gate_callee (f := 33) rfl ?_); refine goesL_ (some 81) rfl rfl Try.func33 (by kernel_rfl) rfl #[.int .i64 t432, .int .i64 t439] rfl (by (try simp only [List.map_toArray, List.map_cons, List.map_nil]); first | done | rfl | (simp only [List.length_drop, List.length_take]; rfl)) ?_; (with_reducible refine (impl_Mul.calls t432 t439 t450 t451 _ A15.out).mono ?_); rintro e w' ⟨rfl, ⟨nd, rfl⟩⟩; refine ⟨_, rfl, ?_⟩) | ((with_reducible refine gate_callee (f := 40) rfl ?_); refine goesL_ (some 87) rfl rfl Try.func40 (by kernel_rfl) rfl #[.int .i64 t448, .int .i64 t450] rfl (by (try simp only [List.map_toArray, List.map_cons, List.map_nil]); first | done | rfl | (simp only [List.length_drop, List.length_take]; rfl)) ?_; (with_reducible refine (impl_Add.calls t448 t450 t452 t453 _ A16.out).mono ?_); rintro e w' ⟨rfl, ⟨nd, rfl⟩⟩; refine ⟨_, rfl, ?_⟩) | ((with_reducible refine gate_callee (f := 33) rfl ?_); refine goesL_ (some 93) rfl rfl Try.func33 (by kernel_rfl) rfl #[.int .i64 t432, .int .i64 t431] rfl (by (try simp only [List.map_toArray, List.map_cons, List.map_nil]); first | done | rfl | (simp only [List.length_drop, List.length_take]; rfl)) ?_; (with_reducible refine (impl_Mul.calls t432 t431 t454 t455 _ A17.out).mono ?_); rintro e w' ⟨rfl, ⟨nd, rfl⟩⟩; refine ⟨_, rfl, ?_⟩) | ((with_reducible refine gate_callee (f := 42) rfl ?_); refine goesL_ (some 99) rfl rfl Try.func42 (by kernel_rfl) rfl #[.int .i64 t431, .int .i64 t432] rfl (by (try simp only [List.map_toArray, List.map_cons, List.map_nil]); first | done | rfl | (simp only [List.length_drop, List.length_take]; rfl)) ?_; (with_reducible refine (spec_Mul.calls t431 t432 t456 t457 _ A18.out).mono ?_); rintro e w' ⟨rfl, ⟨nd, rfl⟩⟩; refine ⟨_, rfl, ?_⟩))
          (try simp only [Act.put, List.setIfInBounds_toArray, List.set_cons_zero, List.set_cons_succ])
          go_cut [161] (fun v161 wc => ∃ (kq : Nat) (x161_18 : Bool), v161 = .bool x161_18 ∧ Aside0 (laws_FnField.j1 kq t431 x161_18 = some r) ∧ Aside0 (kq ≤ kj2) ∧ Aside0 (Below w.heap.size w wc))
          case first =>
            have H := HC19.out
            clear HC19
            by_cases c27 : t441 = 0
            · rw [if_pos c27] at H
              have c27b0 : (t441 == 0) = true := beq_iff_eq.mpr c27
              have c27b1 : (t441 != 0) = false := bne_eq_false_iff_eq.mpr c27
              clear c27
              (first | rw [c27b0] | (simp only [i64_w, i32_w]; rw [c27b0]) | skip)
              by_cases c28 : t443 = 0
              · rw [if_pos c28] at H
                have c28b0 : (t443 == 0) = true := beq_iff_eq.mpr c28
                have c28b1 : (t443 != 0) = false := bne_eq_false_iff_eq.mpr c28
                clear c28
                by_cases c29 : t445 = 0
                · rw [if_pos c29] at H
                  have c29b0 : (t445 == 0) = true := beq_iff_eq.mpr c29
                  have c29b1 : (t445 != 0) = false := bne_eq_false_iff_eq.mpr c29
                  clear c29
                  by_cases c30 : t447 = 0
                  · rw [if_pos c30] at H
                    have c30b0 : (t447 == 0) = true := beq_iff_eq.mpr c30
                    have c30b1 : (t447 != 0) = false := bne_eq_false_iff_eq.mpr c30
                    clear c30
                    by_cases c31 : t449 = 0
                    · rw [if_pos c31] at H
                      have c31b0 : (t449 == 0) = true := beq_iff_eq.mpr c31
                      have c31b1 : (t449 != 0) = false := bne_eq_false_iff_eq.mpr c31
                      clear c31
                      by_cases c32 : t451 = 0
                      · rw [if_pos c32] at H
                        have c32b0 : (t451 == 0) = true := beq_iff_eq.mpr c32
                        have c32b1 : (t451 != 0) = false := bne_eq_false_iff_eq.mpr c32
                        clear c32
                        by_cases c33 : t453 = 0
                        · rw [if_pos c33] at H
                          have c33b0 : (t453 == 0) = true := beq_iff_eq.mpr c33
                          have c33b1 : (t453 != 0) = false := bne_eq_false_iff_eq.mpr c33
                          clear c33
                          by_cases c34 : t455 = 0
                          · rw [if_pos c34] at H
                            have c34b0 : (t455 == 0) = true := beq_iff_eq.mpr c34
                            have c34b1 : (t455 != 0) = false := bne_eq_false_iff_eq.mpr c34
                            clear c34
                            by_cases c35 : t442 = t456
                            · rw [if_pos c35] at H
                              have c35b0 : (t442 == t456) = true := beq_iff_eq.mpr c35
                              have c35b1 : (t442 != t456) = false := bne_eq_false_iff_eq.mpr c35
                              clear c35
                              by_cases c36 : t444 = t431
                              · rw [if_pos c36] at H
                                have c36b0 : (t444 == t431) = true := beq_iff_eq.mpr c36
                                have c36b1 : (t444 != t431) = false := bne_eq_false_iff_eq.mpr c36
                                clear c36
                                by_cases c37 : t446 = t452
                                · rw [if_pos c37] at H
                                  have c37b0 : (t446 == t452) = true := beq_iff_eq.mpr c37
                                  have c37b1 : (t446 != t452) = false := bne_eq_false_iff_eq.mpr c37
                                  clear c37
                                  by_cases c38 : t454 = t442
                                  · rw [if_pos c38] at H
                                    have c38b0 : (t454 == t442) = true := beq_iff_eq.mpr c38
                                    have c38b1 : (t454 != t442) = false := bne_eq_false_iff_eq.mpr c38
                                    clear c38
                                    replace H := Option.bind_eq_some_iff.mp H
                                    obtain ⟨t458, A390, H⟩ := H
                                    replace H : (if t458 = true then ((impl_FieldOK.f t442).bind fun t459 => (laws_FnField.j1 kj2 t431 (!t459))) else (laws_FnField.j1 kj2 t431 true)) = some r := H
                                    have A39 := Aside0.mk A390
                                    clear A390
                                    by_cases c40 : t458 = true
                                    · subst c40
                                      have H1 : ((impl_FieldOK.f t442).bind fun t459 => (laws_FnField.j1 kj2 t431 (!t459))) = some r := by rw [if_pos rfl] at H; exact H
                                      clear H
                                      have H := H1
                                      clear H1
                                      replace H := Option.bind_eq_some_iff.mp H
                                      obtain ⟨t459, A410, H⟩ := H
                                      replace H : (laws_FnField.j1 kj2 t431 (!t459)) = some r := H
                                      have A41 := Aside0.mk A410
                                      clear A410
                                      have H' := Aside0.mk H
                                      clear H
                                      go_wp2_with (first | (go_at_call 43; (with_reducible refine (impl_FieldOK.calls t440 true _ A39.out).mono ?_); rintro e w' ⟨rfl, ⟨nd, rfl⟩⟩) | (go_at_call 43; (with_reducible refine (impl_FieldOK.calls t442 t459 _ A41.out).mono ?_); rintro e w' ⟨rfl, ⟨nd, rfl⟩⟩))
                                      go_meet
                                      case rel => exact ⟨_, (!t459), (by first | rfl | (simp; done) | (simp [*]; done)), H', ⟨by have := HJ2.out; first | omega | exact Nat.le_refl _⟩, ⟨by repeat (first | (with_reducible first | exact HB.out | apply below_alloc | apply pw_below_drewN | apply below_drew1) | exact HB.out)⟩⟩
                                    · replace c40 := Bool.eq_false_iff.mpr c40
                                      subst c40
                                      have H1 : (laws_FnField.j1 kj2 t431 true) = some r := by rw [if_neg (show ¬ (false = true) by decide)] at H; exact H
                                      clear H
                                      have H := H1
                                      clear H1
                                      have H' := Aside0.mk H
                                      clear H
                                      go_wp2_with (first | (go_at_call 43; (with_reducible refine (impl_FieldOK.calls t440 false _ A39.out).mono ?_); rintro e w' ⟨rfl, ⟨nd, rfl⟩⟩))
                                      go_meet
                                      case rel => exact ⟨_, (true), (by first | rfl | (simp; done) | (simp [*]; done)), H', ⟨by have := HJ2.out; first | omega | exact Nat.le_refl _⟩, ⟨by repeat (first | (with_reducible first | exact HB.out | apply below_alloc | apply pw_below_drewN | apply below_drew1) | exact HB.out)⟩⟩
                                  · rw [if_neg c38] at H
                                    have c38b0 : (t454 == t442) = false := beq_eq_false_iff_ne.mpr c38
                                    have c38b1 : (t454 != t442) = true := bne_iff_ne.mpr c38
                                    have H' := Aside0.mk H
                                    clear H
                                    go_wp2
                                    go_meet
                                    case rel => exact ⟨_, (true), (by first | rfl | (simp; done) | (simp [*]; done)), H', ⟨by have := HJ2.out; first | omega | exact Nat.le_refl _⟩, ⟨by repeat (first | (with_reducible first | exact HB.out | apply below_alloc | apply pw_below_drewN | apply below_drew1) | exact HB.out)⟩⟩
                                · rw [if_neg c37] at H
                                  have c37b0 : (t446 == t452) = false := beq_eq_false_iff_ne.mpr c37
                                  have c37b1 : (t446 != t452) = true := bne_iff_ne.mpr c37
                                  have H' := Aside0.mk H
                                  clear H
                                  go_wp2
                                  go_meet
                                  case rel => exact ⟨_, (true), (by first | rfl | (simp; done) | (simp [*]; done)), H', ⟨by have := HJ2.out; first | omega | exact Nat.le_refl _⟩, ⟨by repeat (first | (with_reducible first | exact HB.out | apply below_alloc | apply pw_below_drewN | apply below_drew1) | exact HB.out)⟩⟩
                              · rw [if_neg c36] at H
                                have c36b0 : (t444 == t431) = false := beq_eq_false_iff_ne.mpr c36
                                have c36b1 : (t444 != t431) = true := bne_iff_ne.mpr c36
                                have H' := Aside0.mk H
                                clear H
                                go_wp2
                                go_meet
                                case rel => exact ⟨_, (true), (by first | rfl | (simp; done) | (simp [*]; done)), H', ⟨by have := HJ2.out; first | omega | exact Nat.le_refl _⟩, ⟨by repeat (first | (with_reducible first | exact HB.out | apply below_alloc | apply pw_below_drewN | apply below_drew1) | exact HB.out)⟩⟩
                            · rw [if_neg c35] at H
                              have c35b0 : (t442 == t456) = false := beq_eq_false_iff_ne.mpr c35
                              have c35b1 : (t442 != t456) = true := bne_iff_ne.mpr c35
                              have H' := Aside0.mk H
                              clear H
                              go_wp2
                              go_meet
                              case rel => exact ⟨_, (true), (by first | rfl | (simp; done) | (simp [*]; done)), H', ⟨by have := HJ2.out; first | omega | exact Nat.le_refl _⟩, ⟨by repeat (first | (with_reducible first | exact HB.out | apply below_alloc | apply pw_below_drewN | apply below_drew1) | exact HB.out)⟩⟩
                          · rw [if_neg c34] at H
                            have c34b0 : (t455 == 0) = false := beq_eq_false_iff_ne.mpr c34
                            have c34b1 : (t455 != 0) = true := bne_iff_ne.mpr c34
                            have H' := Aside0.mk H
                            clear H
                            go_wp2
                            go_meet
                            case rel => exact ⟨_, (true), (by first | rfl | (simp; done) | (simp [*]; done)), H', ⟨by have := HJ2.out; first | omega | exact Nat.le_refl _⟩, ⟨by repeat (first | (with_reducible first | exact HB.out | apply below_alloc | apply pw_below_drewN | apply below_drew1) | exact HB.out)⟩⟩
                        · rw [if_neg c33] at H
                          have c33b0 : (t453 == 0) = false := beq_eq_false_iff_ne.mpr c33
                          have c33b1 : (t453 != 0) = true := bne_iff_ne.mpr c33
                          have H' := Aside0.mk H
                          clear H
                          go_wp2
                          go_meet
                          case rel => exact ⟨_, (true), (by first | rfl | (simp; done) | (simp [*]; done)), H', ⟨by have := HJ2.out; first | omega | exact Nat.le_refl _⟩, ⟨by repeat (first | (with_reducible first | exact HB.out | apply below_alloc | apply pw_below_drewN | apply below_drew1) | exact HB.out)⟩⟩
                      · rw [if_neg c32] at H
                        have c32b0 : (t451 == 0) = false := beq_eq_false_iff_ne.mpr c32
                        have c32b1 : (t451 != 0) = true := bne_iff_ne.mpr c32
                        have H' := Aside0.mk H
                        clear H
                        go_wp2
                        go_meet
                        case rel => exact ⟨_, (true), (by first | rfl | (simp; done) | (simp [*]; done)), H', ⟨by have := HJ2.out; first | omega | exact Nat.le_refl _⟩, ⟨by repeat (first | (with_reducible first | exact HB.out | apply below_alloc | apply pw_below_drewN | apply below_drew1) | exact HB.out)⟩⟩
                    · rw [if_neg c31] at H
                      have c31b0 : (t449 == 0) = false := beq_eq_false_iff_ne.mpr c31
                      have c31b1 : (t449 != 0) = true := bne_iff_ne.mpr c31
                      have H' := Aside0.mk H
                      clear H
                      go_wp2
                      go_meet
                      case rel => exact ⟨_, (true), (by first | rfl | (simp; done) | (simp [*]; done)), H', ⟨by have := HJ2.out; first | omega | exact Nat.le_refl _⟩, ⟨by repeat (first | (with_reducible first | exact HB.out | apply below_alloc | apply pw_below_drewN | apply below_drew1) | exact HB.out)⟩⟩
                  · rw [if_neg c30] at H
                    have c30b0 : (t447 == 0) = false := beq_eq_false_iff_ne.mpr c30
                    have c30b1 : (t447 != 0) = true := bne_iff_ne.mpr c30
                    have H' := Aside0.mk H
                    clear H
                    go_wp2
                    go_meet
                    case rel => exact ⟨_, (true), (by first | rfl | (simp; done) | (simp [*]; done)), H', ⟨by have := HJ2.out; first | omega | exact Nat.le_refl _⟩, ⟨by repeat (first | (with_reducible first | exact HB.out | apply below_alloc | apply pw_below_drewN | apply below_drew1) | exact HB.out)⟩⟩
                · rw [if_neg c29] at H
                  have c29b0 : (t445 == 0) = false := beq_eq_false_iff_ne.mpr c29
                  have c29b1 : (t445 != 0) = true := bne_iff_ne.mpr c29
                  have H' := Aside0.mk H
                  clear H
                  go_wp2
                  go_meet
                  case rel => exact ⟨_, (true), (by first | rfl | (simp; done) | (simp [*]; done)), H', ⟨by have := HJ2.out; first | omega | exact Nat.le_refl _⟩, ⟨by repeat (first | (with_reducible first | exact HB.out | apply below_alloc | apply pw_below_drewN | apply below_drew1) | exact HB.out)⟩⟩
              · rw [if_neg c28] at H
                have c28b0 : (t443 == 0) = false := beq_eq_false_iff_ne.mpr c28
                have c28b1 : (t443 != 0) = true := bne_iff_ne.mpr c28
                have H' := Aside0.mk H
                clear H
                go_wp2
                go_meet
                case rel => exact ⟨_, (true), (by first | rfl | (simp; done) | (simp [*]; done)), H', ⟨by have := HJ2.out; first | omega | exact Nat.le_refl _⟩, ⟨by repeat (first | (with_reducible first | exact HB.out | apply below_alloc | apply pw_below_drewN | apply below_drew1) | exact HB.out)⟩⟩
            · rw [if_neg c27] at H
              have c27b0 : (t441 == 0) = false := beq_eq_false_iff_ne.mpr c27
              have c27b1 : (t441 != 0) = true := bne_iff_ne.mpr c27
              (first | rw [c27b0] | (simp only [i64_w, i32_w]; rw [c27b0]) | skip)
              have H' := Aside0.mk H
              clear H
              go_wp2
              go_meet
              case rel => exact ⟨_, (true), (by first | rfl | (simp; done) | (simp [*]; done)), H', ⟨by have := HJ2.out; first | omega | exact Nat.le_refl _⟩, ⟨by repeat (first | (with_reducible first | exact HB.out | apply below_alloc | apply pw_below_drewN | apply below_drew1) | exact HB.out)⟩⟩
          case rest =>
            clear HC19
            try clear c1
            try clear c2
            try clear p2
            try clear c3
            try clear c4
            try clear c4b0
            try clear c4b1
            try clear c5
            try clear c8
            try clear c11
            try clear c27
            try clear c27b0
            try clear c27b1
            try clear c28
            try clear c28b0
            try clear c28b1
            try clear c29
            try clear c29b0
            try clear c29b1
            try clear c30
            try clear c30b0
            try clear c30b1
            try clear c31
            try clear c31b0
            try clear c31b1
            try clear c32
            try clear c32b0
            try clear c32b1
            try clear c33
            try clear c33b0
            try clear c33b1
            try clear c34
            try clear c34b0
            try clear c34b1
            try clear c35
            try clear c35b0
            try clear c35b1
            try clear c36
            try clear c36b0
            try clear c36b1
            try clear c37
            try clear c37b0
            try clear c37b1
            try clear c38
            try clear c38b0
            try clear c38b1
            try clear c39
            try clear c40
            try clear c41
            try clear p2
            obtain ⟨kq, x161_18, rfl, HA, HJ18, HB⟩ := hcut
            cases kq with
            | zero => exact absurd HA.out (by simp [laws_FnField.j1])
            | succ kj18 =>
              have H := HA.out
              clear HA
              simp only [laws_FnField.j1] at H
              by_cases c42 : x161_18 = true
              · subst c42
                have H1 : (none) = some r := by rw [if_pos rfl] at H; exact H
                clear H
                have H := H1
                clear H1
                exact absurd H (by simp)
              · replace c42 := Bool.eq_false_iff.mpr c42
                subst c42
                have H1 : (if t431 = 0 then ((impl_Inverse.f kj18 t431).bind fun bt460 => (some (bt460.2 == 7))) else ((impl_Inverse.f kj18 t431).bind fun bt462 => ((impl_Mul.f bt462.1 t431).bind fun bt464 => (if bt462.2 = 0 then (if bt464.2 = 0 then (some (bt464.1 == 1)) else (none)) else (none))))) = some r := by rw [if_neg (show ¬ (false = true) by decide)] at H; exact H
                clear H
                have H := H1
                clear H1
                by_cases c43 : t431 = 0
                · rw [if_pos c43] at H
                  have c43b0 : (t431 == 0) = true := beq_iff_eq.mpr c43
                  have c43b1 : (t431 != 0) = false := bne_eq_false_iff_eq.mpr c43
                  clear c43
                  replace H := Option.bind_eq_some_iff.mp H
                  obtain ⟨⟨t460, t461⟩, A440, H⟩ := H
                  replace H : (some (t461 == 7)) = some r := H
                  have A44 := Aside0.mk A440
                  clear A440
                  obtain rfl := Option.some.inj H
                  go_wp2_with (first | ((with_reducible refine gate_callee (f := 30) rfl ?_); refine goesL_ (some 166) rfl rfl Try.func30 (by kernel_rfl) rfl #[.int .i64 t431] rfl (by (try simp only [List.map_toArray, List.map_cons, List.map_nil]); first | done | rfl | (simp only [List.length_drop, List.length_take]; rfl)) ?_; (with_reducible refine (impl_Inverse.calls kj18 t431 t460 t461 _ A44.out).mono ?_); rintro e w' ⟨rfl, ⟨nd, rfl⟩⟩; refine ⟨_, rfl, ?_⟩))
                  go_ret
                  exact ⟨by first | rfl | (simp [errW_none, errW_some] <;> rfl) | (simp [*, errW_none, errW_some] <;> rfl), by repeat (first | (with_reducible first | exact HB.out | apply below_alloc | apply pw_below_drewN | apply below_drew1) | exact HB.out)⟩
                · rw [if_neg c43] at H
                  have c43b0 : (t431 == 0) = false := beq_eq_false_iff_ne.mpr c43
                  have c43b1 : (t431 != 0) = true := bne_iff_ne.mpr c43
                  replace H := Option.bind_eq_some_iff.mp H
                  obtain ⟨⟨t462, t463⟩, A450, H⟩ := H
                  replace H : ((impl_Mul.f t462 t431).bind fun bt464 => (if t463 = 0 then (if bt464.2 = 0 then (some (bt464.1 == 1)) else (none)) else (none))) = some r := H
                  have A45 := Aside0.mk A450
                  clear A450
                  replace H := Option.bind_eq_some_iff.mp H
                  obtain ⟨⟨t464, t465⟩, A460, H⟩ := H
                  replace H : (if t463 = 0 then (if t465 = 0 then (some (t464 == 1)) else (none)) else (none)) = some r := H
                  have A46 := Aside0.mk A460
                  clear A460
                  by_cases c47 : t463 = 0
                  · rw [if_pos c47] at H
                    have c47b0 : (t463 == 0) = true := beq_iff_eq.mpr c47
                    have c47b1 : (t463 != 0) = false := bne_eq_false_iff_eq.mpr c47
                    clear c47
                    by_cases c48 : t465 = 0
                    · rw [if_pos c48] at H
                      have c48b0 : (t465 == 0) = true := beq_iff_eq.mpr c48
                      have c48b1 : (t465 != 0) = false := bne_eq_false_iff_eq.mpr c48
                      clear c48
                      obtain rfl := Option.some.inj H
                      go_wp2_with (first | ((with_reducible refine gate_callee (f := 30) rfl ?_); refine goesL_ (some 173) rfl rfl Try.func30 (by kernel_rfl) rfl #[.int .i64 t431] rfl (by (try simp only [List.map_toArray, List.map_cons, List.map_nil]); first | done | rfl | (simp only [List.length_drop, List.length_take]; rfl)) ?_; (with_reducible refine (impl_Inverse.calls kj18 t431 t462 t463 _ A45.out).mono ?_); rintro e w' ⟨rfl, ⟨nd, rfl⟩⟩; refine ⟨_, rfl, ?_⟩) | ((with_reducible refine gate_callee (f := 33) rfl ?_); refine goesL_ (some 179) rfl rfl Try.func33 (by kernel_rfl) rfl #[.int .i64 t462, .int .i64 t431] rfl (by (try simp only [List.map_toArray, List.map_cons, List.map_nil]); first | done | rfl | (simp only [List.length_drop, List.length_take]; rfl)) ?_; (with_reducible refine (impl_Mul.calls t462 t431 t464 t465 _ A46.out).mono ?_); rintro e w' ⟨rfl, ⟨nd, rfl⟩⟩; refine ⟨_, rfl, ?_⟩))
                      go_ret
                      exact ⟨by first | rfl | (simp [errW_none, errW_some] <;> rfl) | (simp [*, errW_none, errW_some] <;> rfl), by repeat (first | (with_reducible first | exact HB.out | apply below_alloc | apply pw_below_drewN | apply below_drew1) | exact HB.out)⟩
                    · rw [if_neg c48] at H
                      exact absurd H (by simp)
                  · rw [if_neg c47] at H
                    exact absurd H (by simp)
        · rw [if_neg c8] at H
          exact absurd H (by simp)

/-- THE ONE PURE STATEMENT of laws_FnField: yours. -/
def laws_FnField.Pure : Prop := ∀ (l0 : List Int) (l1 : List Int), l0.length ≤ maxLen → l0.length * 1 ≤ 140737488351232 → (∀ x ∈ l0, (Lit.int .u8 x).wf = true) → l1.length ≤ maxLen → l1.length * 1 ≤ 140737488351232 → (∀ x ∈ l1, (Lit.int .u8 x).wf = true) → ∃ k, laws_FnField.f k l0 l1 = some true
theorem laws_FnField.walk (P : laws_FnField.Pure) (a0 : Option Addr) (len0 cap0 : Nat) (z0 : List Int) (a1 : Option Addr) (len1 cap1 : Nat) (z1 : List Int) (w : World) (w0 : (a0 = none ∧ len0 = 0 ∧ cap0 = 0 ∧ z0 = []) ∨ ∃ x, a0 = some x ∧ len0 ≤ cap0 ∧ cap0 ≤ maxLen ∧ z0.length = cap0 ∧ (∀ i, i < z0.length → w.cell? (x.add i) = some (.int .u8 (z0.getD i 0))) ∧ ∀ n ∈ z0, (Lit.int .u8 n).wf = true) (y0 : len0 * 1 ≤ 140737488351232) (w1 : (a1 = none ∧ len1 = 0 ∧ cap1 = 0 ∧ z1 = []) ∨ ∃ x, a1 = some x ∧ len1 ≤ cap1 ∧ cap1 ≤ maxLen ∧ z1.length = cap1 ∧ (∀ i, i < z1.length → w.cell? (x.add i) = some (.int .u8 (z1.getD i 0))) ∧ ∀ n ∈ z1, (Lit.int .u8 n).wf = true) (y1 : len1 * 1 ≤ 140737488351232) :
    Calls Try.prog 11 #[.slice a0 len0 cap0, .slice a1 len1 cap1] w fun e w' => e = .returned (.bool true) ∧ Below w.heap.size w w' := by
  obtain ⟨l0, rfl, hr0, hm0, hw0, hc0⟩ := ReadsInt.ofRowC w0
  obtain ⟨l1, rfl, hr1, hm1, hw1, hc1⟩ := ReadsInt.ofRowC w1
  obtain ⟨k, h⟩ := P l0 l1 hm0 y0 hw0 hm1 y1 hw1
  refine (laws_FnField.calls k _ _ l0 _ _ l1 true w (Kd.C_of_reads (d := (0 : Int)) (h1 := fun _ => rfl) hr0) hc0 (Kd.C_of_reads (d := (0 : Int)) (h1 := fun _ => rfl) hr1) hc1 h).mono ?_
  rintro e w' ⟨rfl, hd⟩
  exact ⟨rfl, hd⟩

/-! ### spec_l01Add: function 115 -/
def spec_l01Add.f (a0 : Int) (a1 : Int) : Option (Int) := some (Int.tmod (wrap64 (a0 + a1)) 2130706433)
set_option maxHeartbeats 8000000 in
set_option maxRecDepth 100000 in
theorem spec_l01Add.calls (a0 : Int) (a1 : Int) (r : Int) (w : World) (h : spec_l01Add.f a0 a1 = some r) :
    Calls Try.prog 115 #[.int .i64 a0, .int .i64 a1] w fun e w' => e = .returned (.int .i64 r) ∧ Drawn0 w w' := by
  have H : (some (Int.tmod (wrap64 (a0 + a1)) 2130706433)) = some r := h
  clear h
  obtain rfl := Option.some.inj H
  go_enter Try.func115, Try.ntmps115
  go_wp2
  go_ret
  exact ⟨by first | rfl | (simp; done) | (simp [*]; done), by repeat (first | exact Drawn0.refl _ | apply Drawn0.step)⟩

/-! ### spec_l01Pow: function 82 -/
def spec_l01Pow.l0 : Nat → Int → Int → Int → Option (Int)
  | 0, _, _, _ => none
  | k + 1, x0, x1, x5 => if x1 > 0 then (if (Int.tmod x1 2) = 1 then ((spec_l01Mul.f x5 x0).bind fun t249 => ((spec_l01Mul.f x0 x0).bind fun t250 => (spec_l01Pow.l0 k t250 (wrap64 (Int.tdiv x1 2)) t249))) else ((spec_l01Mul.f x0 x0).bind fun t251 => (spec_l01Pow.l0 k t251 (wrap64 (Int.tdiv x1 2)) x5))) else (some x5)
def spec_l01Pow.f (k : Nat) (a0 : Int) (a1 : Int) : Option (Int) := spec_l01Pow.l0 k a0 a1 1
theorem spec_l01Pow.mono_l : ∀ k, (∀ y0 y1 y2, LeO (spec_l01Pow.l0 k y0 y1 y2) (spec_l01Pow.l0 (k + 1) y0 y1 y2))
  | 0 => fun _ _ _ r h => by simp [spec_l01Pow.l0] at h
  | k + 1 => by
    have ih0 := spec_l01Pow.mono_l k
    · intro y0 y1 y2
      unfold spec_l01Pow.l0
      repeat' first
      | (with_reducible exact ih0 _ _ _)
      | (with_reducible exact LeO.refl _)
      | (with_reducible exact LeO.none _)
      | (with_reducible refine LeO.ite ?_ ?_)
      | (with_reducible refine LeO.bind ?_ (fun _ => ?_))
      | exact ih0 _ _ _
      | exact LeO.none _
      | refine LeO.ite ?_ ?_
      | refine LeO.bind ?_ (fun _ => ?_)
theorem spec_l01Pow.mono : ∀ a0 a1 k, LeO (spec_l01Pow.f k a0 a1) (spec_l01Pow.f (k + 1) a0 a1) := by
  intro a0 a1 k
  have ih0 := spec_l01Pow.mono_l k
  unfold spec_l01Pow.f
  repeat' first
      | (with_reducible exact ih0 _ _ _)
      | (with_reducible exact LeO.refl _)
      | (with_reducible exact LeO.none _)
      | (with_reducible refine LeO.ite ?_ ?_)
      | (with_reducible refine LeO.bind ?_ (fun _ => ?_))
      | exact ih0 _ _ _
      | exact LeO.none _
      | refine LeO.ite ?_ ?_
      | refine LeO.bind ?_ (fun _ => ?_)
set_option maxHeartbeats 8000000 in
set_option maxRecDepth 100000 in
theorem spec_l01Pow.calls (k : Nat) (a0 : Int) (a1 : Int) (r : Int) (w : World) (h : spec_l01Pow.f k a0 a1 = some r) :
    Calls Try.prog 82 #[.int .i64 a0, .int .i64 a1] w fun e w' => e = .returned (.int .i64 r) ∧ Drawn0 w w' := by
  have H : (spec_l01Pow.l0 k a0 a1 1) = some r := h
  clear h
  have H' := Aside0.mk H
  clear H
  go_enter Try.func82, Try.ntmps82
  go_wp2
  go_loopg [0, 1, 5] k (fun kq v0 v1 v5 w' => ∃ (x0_1 : Int) (x1_1 : Int) (x5_1 : Int), v0 = .int .i64 x0_1 ∧ v1 = .int .i64 x1_1 ∧ v5 = .int .i64 x5_1 ∧ Aside0 (spec_l01Pow.l0 kq x0_1 x1_1 x5_1 = some r) ∧ Aside0 (kq ≤ k) ∧ Drawn0 w w')
  case atStart => exact ⟨(a0), (a1), (1), (by first | rfl | (simp; done) | (simp [*]; done)), (by first | rfl | (simp; done) | (simp [*]; done)), (by first | rfl | (simp; done) | (simp [*]; done)), H', ⟨Nat.le_refl _⟩, by repeat (first | exact Drawn0.refl _ | apply Drawn0.step)⟩
  case round =>
    clear H'
    try clear p2
    obtain ⟨x0_1, x1_1, x5_1, rfl, rfl, rfl, HA, HK1, ⟨m1, rfl⟩⟩ := hrel
    cases gk with
    | zero => exact absurd HA.out (by simp [spec_l01Pow.l0])
    | succ k1 =>
      have H := HA.out
      clear HA
      simp only [spec_l01Pow.l0] at H
      by_cases c3 : x1_1 > 0
      · rw [if_pos c3] at H
        have c3b0 : decide (0 < x1_1) = true := decide_eq_true c3
        clear c3
        by_cases c4 : (Int.tmod x1_1 2) = 1
        · rw [if_pos c4] at H
          have c4b0 : ((Int.tmod x1_1 2) == 1) = true := beq_iff_eq.mpr c4
          have c4b1 : ((Int.tmod x1_1 2) != 1) = false := bne_eq_false_iff_eq.mpr c4
          clear c4
          replace H := Option.bind_eq_some_iff.mp H
          obtain ⟨t249, A50, H⟩ := H
          replace H : ((spec_l01Mul.f x0_1 x0_1).bind fun t250 => (spec_l01Pow.l0 k1 t250 (wrap64 (Int.tdiv x1_1 2)) t249)) = some r := H
          have A5 := Aside0.mk A50
          clear A50
          replace H := Option.bind_eq_some_iff.mp H
          obtain ⟨t250, A60, H⟩ := H
          replace H : (spec_l01Pow.l0 k1 t250 (wrap64 (Int.tdiv x1_1 2)) t249) = some r := H
          have A6 := Aside0.mk A60
          clear A60
          have H' := Aside0.mk H
          clear H
          go_wp2_with (first | ((with_reducible refine gate_callee (f := 101) rfl ?_); refine goesL_ (some 13) rfl rfl Try.func101 (by kernel_rfl) rfl #[.int .i64 x5_1, .int .i64 x0_1] rfl (by (try simp only [List.map_toArray, List.map_cons, List.map_nil]); first | done | rfl | (simp only [List.length_drop, List.length_take]; rfl)) ?_; (with_reducible refine (spec_l01Mul.calls x5_1 x0_1 t249 _ A5.out).mono ?_); rintro e w' ⟨rfl, ⟨nd, rfl⟩⟩; refine ⟨_, rfl, ?_⟩) | ((with_reducible refine gate_callee (f := 101) rfl ?_); refine goesL_ (some 16) rfl rfl Try.func101 (by kernel_rfl) rfl #[.int .i64 x0_1, .int .i64 x0_1] rfl (by (try simp only [List.map_toArray, List.map_cons, List.map_nil]); first | done | rfl | (simp only [List.length_drop, List.length_take]; rfl)) ?_; (with_reducible refine (spec_l01Mul.calls x0_1 x0_1 t250 _ A6.out).mono ?_); rintro e w' ⟨rfl, ⟨nd, rfl⟩⟩; refine ⟨_, rfl, ?_⟩))
          go_roundg k1
          case measure => have := HK1.out; omega
          case rel => exact ⟨(t250), (wrap64 (Int.tdiv x1_1 2)), (t249), (by first | rfl | (simp; done) | (simp [*]; done)), (by first | rfl | (simp; done) | (simp [*]; done)), (by first | rfl | (simp; done) | (simp [*]; done)), H', ⟨by have := HK1.out; omega⟩, by repeat (first | exact Drawn0.refl _ | apply Drawn0.step)⟩
        · rw [if_neg c4] at H
          have c4b0 : ((Int.tmod x1_1 2) == 1) = false := beq_eq_false_iff_ne.mpr c4
          have c4b1 : ((Int.tmod x1_1 2) != 1) = true := bne_iff_ne.mpr c4
          replace H := Option.bind_eq_some_iff.mp H
          obtain ⟨t251, A70, H⟩ := H
          replace H : (spec_l01Pow.l0 k1 t251 (wrap64 (Int.tdiv x1_1 2)) x5_1) = some r := H
          have A7 := Aside0.mk A70
          clear A70
          have H' := Aside0.mk H
          clear H
          go_wp2_with (first | ((with_reducible refine gate_callee (f := 101) rfl ?_); refine goesL_ (some 16) rfl rfl Try.func101 (by kernel_rfl) rfl #[.int .i64 x0_1, .int .i64 x0_1] rfl (by (try simp only [List.map_toArray, List.map_cons, List.map_nil]); first | done | rfl | (simp only [List.length_drop, List.length_take]; rfl)) ?_; (with_reducible refine (spec_l01Mul.calls x0_1 x0_1 t251 _ A7.out).mono ?_); rintro e w' ⟨rfl, ⟨nd, rfl⟩⟩; refine ⟨_, rfl, ?_⟩))
          go_roundg k1
          case measure => have := HK1.out; omega
          case rel => exact ⟨(t251), (wrap64 (Int.tdiv x1_1 2)), (x5_1), (by first | rfl | (simp; done) | (simp [*]; done)), (by first | rfl | (simp; done) | (simp [*]; done)), (by first | rfl | (simp; done) | (simp [*]; done)), H', ⟨by have := HK1.out; omega⟩, by repeat (first | exact Drawn0.refl _ | apply Drawn0.step)⟩
      · rw [if_neg c3] at H
        have c3b0 : decide (0 < x1_1) = false := decide_eq_false c3
        clear c3
        obtain rfl := Option.some.inj H
        go_wp2
        go_ret
        exact ⟨by first | rfl | (simp; done) | (simp [*]; done), by repeat (first | exact Drawn0.refl _ | apply Drawn0.step)⟩

/-! ### spec_l01Sub: function 116 -/
def spec_l01Sub.f (a0 : Int) (a1 : Int) : Option (Int) := some (Int.tmod (wrap64 ((wrap64 (a0 + 2130706433)) - a1)) 2130706433)
set_option maxHeartbeats 8000000 in
set_option maxRecDepth 100000 in
theorem spec_l01Sub.calls (a0 : Int) (a1 : Int) (r : Int) (w : World) (h : spec_l01Sub.f a0 a1 = some r) :
    Calls Try.prog 116 #[.int .i64 a0, .int .i64 a1] w fun e w' => e = .returned (.int .i64 r) ∧ Drawn0 w w' := by
  have H : (some (Int.tmod (wrap64 ((wrap64 (a0 + 2130706433)) - a1)) 2130706433)) = some r := h
  clear h
  obtain rfl := Option.some.inj H
  go_enter Try.func116, Try.ntmps116
  go_wp2
  go_ret
  exact ⟨by first | rfl | (simp; done) | (simp [*]; done), by repeat (first | exact Drawn0.refl _ | apply Drawn0.step)⟩

end Go.Proofs.Ytnggbahcmhdjnaa.Print
