-- Packed by a program of this session (slim.py) out of printed texts; not trusted, Lean checks it.
import Derived.Test.YtnggbahcmhdjnaaPrint0
import Derived.Test.YtnggbahcmhdjnaaPrint1
import Derived.Test.YtnggbahcmhdjnaaQFnPowers0
import Derived.Test.YtnggbahcmhdjnaaQFnPowers1
namespace Go.Proofs.Ytnggbahcmhdjnaa.Print
open Go.RowKit Go.Proofs.YtnggbahcmhdjnaaW.PrintWords Go.Proofs.YtnggbahcmhdjnaaW.PrintLast Go.Proofs.YtnggbahcmhdjnaaW.PrintMore
attribute [local go_sem] max2_int min2_int max_two min_two max_three min_three max_four min_four   -- for this text's walks alone
set_option linter.unusedVariables false
set_option linter.unusedSimpArgs false

/-! ### laws_FnPowers: function 18 -/
mutual
def laws_FnPowers.j0 : Nat → List Int → List Int → Bool → Option (Bool)
  | 0, _, _, _ => none
  | k + 1, x0, x1, x30 => if x30 = true then (some true) else ((spec_FieldOf.f k x0).bind fun t919 => ((laws_at.f x1 0 60).bind fun t920 => ((laws_at.f x1 1 60).bind fun t921 => ((impl_Pow.f k t919 t920).bind fun bt922 => ((impl_Pow.f k t919 t921).bind fun bt924 => ((impl_Pow.f k t919 (wrap64 (t920 + t921))).bind fun bt926 => ((impl_Mul.f bt922.1 bt924.1).bind fun bt928 => (if bt922.2 = 0 then (if bt924.2 = 0 then (if bt926.2 = 0 then (if bt928.2 = 0 then (laws_FnPowers.j1 k t919 (bt926.1 != bt928.1)) else (laws_FnPowers.j1 k t919 true)) else (laws_FnPowers.j1 k t919 true)) else (laws_FnPowers.j1 k t919 true)) else (laws_FnPowers.j1 k t919 true)))))))))
def laws_FnPowers.j1 : Nat → Int → Bool → Option (Bool)
  | 0, _, _ => none
  | k + 1, x5, x81 => if x81 = true then (none) else ((impl_Pow.f k x5 2130706432).bind fun bt930 => (if bt930.2 = 0 then (if bt930.1 = 1 then (if bt930.1 = 0 then (laws_FnPowers.j2 k x5 false) else (laws_FnPowers.j2 k x5 (x5 == 0))) else (if x5 = 0 then (if bt930.1 = 0 then (laws_FnPowers.j2 k x5 false) else (laws_FnPowers.j2 k x5 (x5 == 0))) else (laws_FnPowers.j2 k x5 true))) else (laws_FnPowers.j2 k x5 true)))
def laws_FnPowers.j2 : Nat → Int → Bool → Option (Bool)
  | 0, _, _ => none
  | k + 1, x5, x104 => if x104 = true then (none) else (if x5 = 0 then (some true) else ((some (([x5, 1, 2130706432, x5] : List Int) : List Int)).bind fun y932 => ((impl_BatchInverse.f k y932).bind fun bt935 => ((spec_BatchInverse.f k y932).bind fun bt939 => (if bt935.2 = 0 then ((laws_sameInts.f k bt935.1 bt939.1).bind fun t943 => (if t943 = true then (if 0 < (bt935.1.length : Int) then (if 3 < (bt935.1.length : Int) then (if (rd bt935.1 0) = (rd bt935.1 3) then (if 1 < (bt935.1.length : Int) then (if (rd bt935.1 1) = 1 then (if 2 < (bt935.1.length : Int) then (some ((rd bt935.1 2) == 2130706432)) else (none)) else (none)) else (none)) else (none)) else (none)) else (none)) else (none))) else (none))))))
end
def laws_FnPowers.f (k : Nat) (l0 : List Int) (l1 : List Int) : Option (Bool) := if (l0.length : Int) > 1048576 then (laws_FnPowers.j0 k l0 l1 true) else (laws_FnPowers.j0 k l0 l1 (decide ((l1.length : Int) > 1048576)))
theorem laws_FnPowers.mono_l : ∀ k, (∀ y0 y1 y2, LeO (laws_FnPowers.j0 k y0 y1 y2) (laws_FnPowers.j0 (k + 1) y0 y1 y2)) ∧ (∀ y0 y1, LeO (laws_FnPowers.j1 k y0 y1) (laws_FnPowers.j1 (k + 1) y0 y1)) ∧ (∀ y0 y1, LeO (laws_FnPowers.j2 k y0 y1) (laws_FnPowers.j2 (k + 1) y0 y1))
  | 0 => ⟨fun _ _ _ r h => by simp [laws_FnPowers.j0] at h, fun _ _ r h => by simp [laws_FnPowers.j1] at h, fun _ _ r h => by simp [laws_FnPowers.j2] at h⟩
  | k + 1 => by
    obtain ⟨ih0, ih1, ih2⟩ := laws_FnPowers.mono_l k
    refine ⟨?_, ?_, ?_⟩
    · intro y0 y1 y2
      unfold laws_FnPowers.j0
      repeat' first
      | (with_reducible exact ih0 _ _ _)
      | (with_reducible exact ih1 _ _)
      | (with_reducible exact ih2 _ _)
      | (with_reducible exact impl_BatchInverse.mono _ _)
      | (with_reducible exact impl_Pow.mono _ _ _)
      | (with_reducible exact laws_sameInts.mono _ _ _)
      | (with_reducible exact spec_BatchInverse.mono _ _)
      | (with_reducible exact spec_FieldOf.mono _ _)
      | (with_reducible exact LeO.refl _)
      | (with_reducible exact LeO.none _)
      | (with_reducible refine LeO.ite ?_ ?_)
      | (with_reducible refine LeO.bind ?_ (fun _ => ?_))
      | exact ih0 _ _ _
      | exact ih1 _ _
      | exact ih2 _ _
      | exact impl_BatchInverse.mono _ _
      | exact impl_Pow.mono _ _ _
      | exact laws_sameInts.mono _ _ _
      | exact spec_BatchInverse.mono _ _
      | exact spec_FieldOf.mono _ _
      | exact LeO.none _
      | refine LeO.ite ?_ ?_
      | refine LeO.bind ?_ (fun _ => ?_)
    · intro y0 y1
      unfold laws_FnPowers.j1
      repeat' first
      | (with_reducible exact ih0 _ _ _)
      | (with_reducible exact ih1 _ _)
      | (with_reducible exact ih2 _ _)
      | (with_reducible exact impl_BatchInverse.mono _ _)
      | (with_reducible exact impl_Pow.mono _ _ _)
      | (with_reducible exact laws_sameInts.mono _ _ _)
      | (with_reducible exact spec_BatchInverse.mono _ _)
      | (with_reducible exact spec_FieldOf.mono _ _)
      | (with_reducible exact LeO.refl _)
      | (with_reducible exact LeO.none _)
      | (with_reducible refine LeO.ite ?_ ?_)
      | (with_reducible refine LeO.bind ?_ (fun _ => ?_))
      | exact ih0 _ _ _
      | exact ih1 _ _
      | exact ih2 _ _
      | exact impl_BatchInverse.mono _ _
      | exact impl_Pow.mono _ _ _
      | exact laws_sameInts.mono _ _ _
      | exact spec_BatchInverse.mono _ _
      | exact spec_FieldOf.mono _ _
      | exact LeO.none _
      | refine LeO.ite ?_ ?_
      | refine LeO.bind ?_ (fun _ => ?_)
    · intro y0 y1
      unfold laws_FnPowers.j2
      repeat' first
      | (with_reducible exact ih0 _ _ _)
      | (with_reducible exact ih1 _ _)
      | (with_reducible exact ih2 _ _)
      | (with_reducible exact impl_BatchInverse.mono _ _)
      | (with_reducible exact impl_Pow.mono _ _ _)
      | (with_reducible exact laws_sameInts.mono _ _ _)
      | (with_reducible exact spec_BatchInverse.mono _ _)
      | (with_reducible exact spec_FieldOf.mono _ _)
      | (with_reducible exact LeO.refl _)
      | (with_reducible exact LeO.none _)
      | (with_reducible refine LeO.ite ?_ ?_)
      | (with_reducible refine LeO.bind ?_ (fun _ => ?_))
      | exact ih0 _ _ _
      | exact ih1 _ _
      | exact ih2 _ _
      | exact impl_BatchInverse.mono _ _
      | exact impl_Pow.mono _ _ _
      | exact laws_sameInts.mono _ _ _
      | exact spec_BatchInverse.mono _ _
      | exact spec_FieldOf.mono _ _
      | exact LeO.none _
      | refine LeO.ite ?_ ?_
      | refine LeO.bind ?_ (fun _ => ?_)
theorem laws_FnPowers.mono : ∀ a0 a1 k, LeO (laws_FnPowers.f k a0 a1) (laws_FnPowers.f (k + 1) a0 a1) := by
  intro a0 a1 k
  obtain ⟨ih0, ih1, ih2⟩ := laws_FnPowers.mono_l k
  unfold laws_FnPowers.f
  repeat' first
      | (with_reducible exact ih0 _ _ _)
      | (with_reducible exact ih1 _ _)
      | (with_reducible exact ih2 _ _)
      | (with_reducible exact impl_BatchInverse.mono _ _)
      | (with_reducible exact impl_Pow.mono _ _ _)
      | (with_reducible exact laws_sameInts.mono _ _ _)
      | (with_reducible exact spec_BatchInverse.mono _ _)
      | (with_reducible exact spec_FieldOf.mono _ _)
      | (with_reducible exact LeO.refl _)
      | (with_reducible exact LeO.none _)
      | (with_reducible refine LeO.ite ?_ ?_)
      | (with_reducible refine LeO.bind ?_ (fun _ => ?_))
      | exact ih0 _ _ _
      | exact ih1 _ _
      | exact ih2 _ _
      | exact impl_BatchInverse.mono _ _
      | exact impl_Pow.mono _ _ _
      | exact laws_sameInts.mono _ _ _
      | exact spec_BatchInverse.mono _ _
      | exact spec_FieldOf.mono _ _
      | exact LeO.none _
      | refine LeO.ite ?_ ?_
      | refine LeO.bind ?_ (fun _ => ?_)
set_option maxHeartbeats 8000000 in
set_option maxRecDepth 100000 in
theorem laws_FnPowers.calls (k : Nat) (A0 : Option Addr) (c0 : Nat) (l0 : List Int) (A1 : Option Addr) (c1 : Nat) (l1 : List Int) (r : Bool) (w : World) (hr0 : Kd.C (Kd.int .u8) w A0 l0.length l0) (hc0 : l0.length ≤ c0) (hr1 : Kd.C (Kd.int .u8) w A1 l1.length l1) (hc1 : l1.length ≤ c1) (h : laws_FnPowers.f k l0 l1 = some r) :
    Calls Try.prog 18 #[.slice A0 l0.length c0, .slice A1 l1.length c1] w fun e w' => e = .returned (.bool r) ∧ Below w.heap.size w w' := by
  have HR0 := Aside0.mk hr0
  have HC0 := Aside0.mk hc0
  clear hr0 hc0
  have HR1 := Aside0.mk hr1
  have HC1 := Aside0.mk hc1
  clear hr1 hc1
  have HB := Aside0.mk (Below.refl w.heap.size w)
  have H : (if (l0.length : Int) > 1048576 then (laws_FnPowers.j0 k l0 l1 true) else (laws_FnPowers.j0 k l0 l1 (decide ((l1.length : Int) > 1048576)))) = some r := h
  clear h
  have HC3 := Aside0.mk H
  clear H
  go_enter Try.func18, Try.ntmps18
  go_upto_region 1 with (fail)
  repeat (go_quiet (fail); go_upto_region 1 with (fail))
  go_cut [30] (fun v30 wc => ∃ (kq : Nat) (x30_2 : Bool), v30 = .bool x30_2 ∧ Aside0 (laws_FnPowers.j0 kq l0 l1 x30_2 = some r) ∧ Aside0 (kq ≤ k) ∧ Aside0 (Below w.heap.size w wc))
  case first =>
    have H := HC3.out
    clear HC3
    by_cases c4 : (l0.length : Int) > 1048576
    · rw [if_pos c4] at H
      have c4b0 : decide (1048576 < (l0.length : Int)) = true := decide_eq_true c4
      have c4b1 : decide (1048576 < l0.length) = true := decide_eq_true (by omega)
      clear c4
      (first | rw [c4b0] | (simp only [i64_w, i32_w]; rw [c4b0]) | skip)
      have H' := Aside0.mk H
      clear H
      go_wp2
      repeat (go_quiet (fail); try go_wp2)
      go_meet
      case rel => exact ⟨_, (true), (by first | rfl | (simp; done) | (simp [*]; done)), H', ⟨by first | omega | exact Nat.le_refl _⟩, ⟨by repeat (first | (with_reducible first | exact HB.out | apply below_alloc | apply pw_below_drewN | apply below_drew1) | exact HB.out)⟩⟩
    · rw [if_neg c4] at H
      have c4b0 : decide (1048576 < (l0.length : Int)) = false := decide_eq_false c4
      have c4b1 : decide (1048576 < l0.length) = false := decide_eq_false (by omega)
      clear c4
      (first | rw [c4b0] | (simp only [i64_w, i32_w]; rw [c4b0]) | skip)
      have H' := Aside0.mk H
      clear H
      go_wp2
      repeat (go_quiet (fail); try go_wp2)
      go_meet
      case rel => exact ⟨_, (decide ((l1.length : Int) > 1048576)), (by first | rfl | (simp; done) | (simp [*]; done)), H', ⟨by first | omega | exact Nat.le_refl _⟩, ⟨by repeat (first | (with_reducible first | exact HB.out | apply below_alloc | apply pw_below_drewN | apply below_drew1) | exact HB.out)⟩⟩
  case rest =>
    clear HC3
    try clear c1
    try clear p2
    try clear c4
    try clear c4b0
    try clear c4b1
    obtain ⟨kq, x30_2, rfl, HA, HJ2, HB⟩ := hcut
    cases kq with
    | zero => exact absurd HA.out (by simp [laws_FnPowers.j0])
    | succ kj2 =>
      have H := HA.out
      clear HA
      simp only [laws_FnPowers.j0] at H
      by_cases c5 : x30_2 = true
      · subst c5
        have H1 : (some true) = some r := by rw [if_pos rfl] at H; exact H
        clear H
        have H := H1
        clear H1
        obtain rfl := Option.some.inj H
        go_wp2
        repeat (go_quiet (fail); try go_wp2)
        go_ret
        exact ⟨by first | rfl | (simp [errW_none, errW_some] <;> rfl) | (simp [*, errW_none, errW_some] <;> rfl), by repeat (first | (with_reducible first | exact HB.out | apply below_alloc | apply pw_below_drewN | apply below_drew1) | exact HB.out)⟩
      · replace c5 := Bool.eq_false_iff.mpr c5
        subst c5
        have H1 : ((spec_FieldOf.f kj2 l0).bind fun t919 => ((laws_at.f l1 0 60).bind fun t920 => ((laws_at.f l1 1 60).bind fun t921 => ((impl_Pow.f kj2 t919 t920).bind fun bt922 => ((impl_Pow.f kj2 t919 t921).bind fun bt924 => ((impl_Pow.f kj2 t919 (wrap64 (t920 + t921))).bind fun bt926 => ((impl_Mul.f bt922.1 bt924.1).bind fun bt928 => (if bt922.2 = 0 then (if bt924.2 = 0 then (if bt926.2 = 0 then (if bt928.2 = 0 then (laws_FnPowers.j1 kj2 t919 (bt926.1 != bt928.1)) else (laws_FnPowers.j1 kj2 t919 true)) else (laws_FnPowers.j1 kj2 t919 true)) else (laws_FnPowers.j1 kj2 t919 true)) else (laws_FnPowers.j1 kj2 t919 true))))))))) = some r := by rw [if_neg (show ¬ (false = true) by decide)] at H; exact H
        clear H
        have H := H1
        clear H1
        replace H := Option.bind_eq_some_iff.mp H
        obtain ⟨t919, A60, H⟩ := H
        replace H : ((laws_at.f l1 0 60).bind fun t920 => ((laws_at.f l1 1 60).bind fun t921 => ((impl_Pow.f kj2 t919 t920).bind fun bt922 => ((impl_Pow.f kj2 t919 t921).bind fun bt924 => ((impl_Pow.f kj2 t919 (wrap64 (t920 + t921))).bind fun bt926 => ((impl_Mul.f bt922.1 bt924.1).bind fun bt928 => (if bt922.2 = 0 then (if bt924.2 = 0 then (if bt926.2 = 0 then (if bt928.2 = 0 then (laws_FnPowers.j1 kj2 t919 (bt926.1 != bt928.1)) else (laws_FnPowers.j1 kj2 t919 true)) else (laws_FnPowers.j1 kj2 t919 true)) else (laws_FnPowers.j1 kj2 t919 true)) else (laws_FnPowers.j1 kj2 t919 true)))))))) = some r := H
        have A6 := Aside0.mk A60
        clear A60
        replace H := Option.bind_eq_some_iff.mp H
        obtain ⟨t920, A70, H⟩ := H
        replace H : ((laws_at.f l1 1 60).bind fun t921 => ((impl_Pow.f kj2 t919 t920).bind fun bt922 => ((impl_Pow.f kj2 t919 t921).bind fun bt924 => ((impl_Pow.f kj2 t919 (wrap64 (t920 + t921))).bind fun bt926 => ((impl_Mul.f bt922.1 bt924.1).bind fun bt928 => (if bt922.2 = 0 then (if bt924.2 = 0 then (if bt926.2 = 0 then (if bt928.2 = 0 then (laws_FnPowers.j1 kj2 t919 (bt926.1 != bt928.1)) else (laws_FnPowers.j1 kj2 t919 true)) else (laws_FnPowers.j1 kj2 t919 true)) else (laws_FnPowers.j1 kj2 t919 true)) else (laws_FnPowers.j1 kj2 t919 true))))))) = some r := H
        have A7 := Aside0.mk A70
        clear A70
        replace H := Option.bind_eq_some_iff.mp H
        obtain ⟨t921, A80, H⟩ := H
        replace H : ((impl_Pow.f kj2 t919 t920).bind fun bt922 => ((impl_Pow.f kj2 t919 t921).bind fun bt924 => ((impl_Pow.f kj2 t919 (wrap64 (t920 + t921))).bind fun bt926 => ((impl_Mul.f bt922.1 bt924.1).bind fun bt928 => (if bt922.2 = 0 then (if bt924.2 = 0 then (if bt926.2 = 0 then (if bt928.2 = 0 then (laws_FnPowers.j1 kj2 t919 (bt926.1 != bt928.1)) else (laws_FnPowers.j1 kj2 t919 true)) else (laws_FnPowers.j1 kj2 t919 true)) else (laws_FnPowers.j1 kj2 t919 true)) else (laws_FnPowers.j1 kj2 t919 true)))))) = some r := H
        have A8 := Aside0.mk A80
        clear A80
        replace H := Option.bind_eq_some_iff.mp H
        obtain ⟨⟨t922, t923⟩, A90, H⟩ := H
        replace H : ((impl_Pow.f kj2 t919 t921).bind fun bt924 => ((impl_Pow.f kj2 t919 (wrap64 (t920 + t921))).bind fun bt926 => ((impl_Mul.f t922 bt924.1).bind fun bt928 => (if t923 = 0 then (if bt924.2 = 0 then (if bt926.2 = 0 then (if bt928.2 = 0 then (laws_FnPowers.j1 kj2 t919 (bt926.1 != bt928.1)) else (laws_FnPowers.j1 kj2 t919 true)) else (laws_FnPowers.j1 kj2 t919 true)) else (laws_FnPowers.j1 kj2 t919 true)) else (laws_FnPowers.j1 kj2 t919 true))))) = some r := H
        have A9 := Aside0.mk A90
        clear A90
        replace H := Option.bind_eq_some_iff.mp H
        obtain ⟨⟨t924, t925⟩, A100, H⟩ := H
        replace H : ((impl_Pow.f kj2 t919 (wrap64 (t920 + t921))).bind fun bt926 => ((impl_Mul.f t922 t924).bind fun bt928 => (if t923 = 0 then (if t925 = 0 then (if bt926.2 = 0 then (if bt928.2 = 0 then (laws_FnPowers.j1 kj2 t919 (bt926.1 != bt928.1)) else (laws_FnPowers.j1 kj2 t919 true)) else (laws_FnPowers.j1 kj2 t919 true)) else (laws_FnPowers.j1 kj2 t919 true)) else (laws_FnPowers.j1 kj2 t919 true)))) = some r := H
        have A10 := Aside0.mk A100
        clear A100
        replace H := Option.bind_eq_some_iff.mp H
        obtain ⟨⟨t926, t927⟩, A110, H⟩ := H
        replace H : ((impl_Mul.f t922 t924).bind fun bt928 => (if t923 = 0 then (if t925 = 0 then (if t927 = 0 then (if bt928.2 = 0 then (laws_FnPowers.j1 kj2 t919 (t926 != bt928.1)) else (laws_FnPowers.j1 kj2 t919 true)) else (laws_FnPowers.j1 kj2 t919 true)) else (laws_FnPowers.j1 kj2 t919 true)) else (laws_FnPowers.j1 kj2 t919 true))) = some r := H
        have A11 := Aside0.mk A110
        clear A110
        replace H := Option.bind_eq_some_iff.mp H
        obtain ⟨⟨t928, t929⟩, A120, H⟩ := H
        replace H : (if t923 = 0 then (if t925 = 0 then (if t927 = 0 then (if t929 = 0 then (laws_FnPowers.j1 kj2 t919 (t926 != t928)) else (laws_FnPowers.j1 kj2 t919 true)) else (laws_FnPowers.j1 kj2 t919 true)) else (laws_FnPowers.j1 kj2 t919 true)) else (laws_FnPowers.j1 kj2 t919 true)) = some r := H
        have A12 := Aside0.mk A120
        clear A120
        have HC13 := Aside0.mk H
        clear H
        go_upto_region 10 with (first | (go_at_call 39; (with_reducible refine (spec_FieldOf.calls kj2 _ _ l0 t919 _ ?side1 ?side2 A6.out).mono ?_); (case side1 => repeat (first | exact (Kd.C_below HR0.out HB.out) | (with_reducible refine Kd.C_alloc ?_ _) | (with_reducible refine Kd.C_drewN ?_ _) | (with_reducible refine Kd.C_drew ?_))); (case side2 => exact HC0.out); rintro e w14 ⟨rfl, hb⟩; have n0_ := Aside0.mk (below_step (by repeat (first | (with_reducible first | exact HB.out | apply below_alloc | apply pw_below_drewN | apply below_drew1) | exact HB.out)) hb); clear HB; have HB := n0_; clear n0_; (try clear hb); (try clear hb2); (try clear hk); (try clear hi)) | (go_at_call 31; (with_reducible refine (laws_at.calls _ _ l1 0 60 t920 _ ?side1 ?side2 A7.out).mono ?_); (case side1 => repeat (first | exact (Kd.C_below HR1.out HB.out) | (with_reducible refine Kd.C_alloc ?_ _) | (with_reducible refine Kd.C_drewN ?_ _) | (with_reducible refine Kd.C_drew ?_))); (case side2 => exact HC1.out); rintro e w' ⟨rfl, ⟨nd, rfl⟩⟩; (try first | exact ⟨rfl, _, World.drewN_drewN _ _ _⟩ | exact ⟨rfl, _, Eq.trans (World.drewN_drewN _ _ _) (congrArg (World.drewN _) (Nat.add_assoc _ _ _))⟩)) | (go_at_call 31; (with_reducible refine (laws_at.calls _ _ l1 1 60 t921 _ ?side1 ?side2 A8.out).mono ?_); (case side1 => repeat (first | exact (Kd.C_below HR1.out (by repeat (first | (with_reducible first | exact HB.out | apply below_alloc | apply pw_below_drewN | apply below_drew1) | exact HB.out))) | (with_reducible refine Kd.C_alloc ?_ _) | (with_reducible refine Kd.C_drewN ?_ _) | (with_reducible refine Kd.C_drew ?_))); (case side2 => exact HC1.out); rintro e w' ⟨rfl, ⟨nd, rfl⟩⟩; (try first | exact ⟨rfl, _, World.drewN_drewN _ _ _⟩ | exact ⟨rfl, _, Eq.trans (World.drewN_drewN _ _ _) (congrArg (World.drewN _) (Nat.add_assoc _ _ _))⟩)) | (go_at_call 28; (with_reducible refine (impl_Pow.calls kj2 t919 t920 t922 t923 _ A9.out).mono ?_); rintro e w' ⟨rfl, ⟨nd, rfl⟩⟩; (try first | exact ⟨rfl, _, World.drewN_drewN _ _ _⟩ | exact ⟨rfl, _, Eq.trans (World.drewN_drewN _ _ _) (congrArg (World.drewN _) (Nat.add_assoc _ _ _))⟩)) | (go_at_call 28; (with_reducible refine (impl_Pow.calls kj2 t919 t921 t924 t925 _ A10.out).mono ?_); rintro e w' ⟨rfl, ⟨nd, rfl⟩⟩; (try first | exact ⟨rfl, _, World.drewN_drewN _ _ _⟩ | exact ⟨rfl, _, Eq.trans (World.drewN_drewN _ _ _) (congrArg (World.drewN _) (Nat.add_assoc _ _ _))⟩)) | (go_at_call 28; (with_reducible refine (impl_Pow.calls kj2 t919 (wrap64 (t920 + t921)) t926 t927 _ A11.out).mono ?_); rintro e w' ⟨rfl, ⟨nd, rfl⟩⟩; (try first | exact ⟨rfl, _, World.drewN_drewN _ _ _⟩ | exact ⟨rfl, _, Eq.trans (World.drewN_drewN _ _ _) (congrArg (World.drewN _) (Nat.add_assoc _ _ _))⟩)) | (go_at_call 33; (with_reducible refine (impl_Mul.calls t922 t924 t928 t929 _ A12.out).mono ?_); rintro e w' ⟨rfl, ⟨nd, rfl⟩⟩; (try first | exact ⟨rfl, _, World.drewN_drewN _ _ _⟩ | exact ⟨rfl, _, Eq.trans (World.drewN_drewN _ _ _) (congrArg (World.drewN _) (Nat.add_assoc _ _ _))⟩)))
        repeat (go_quiet (first | (go_at_call 39; (with_reducible refine (spec_FieldOf.calls kj2 _ _ l0 t919 _ ?side1 ?side2 A6.out).mono ?_); (case side1 => repeat (first | exact (Kd.C_below HR0.out HB.out) | (with_reducible refine Kd.C_alloc ?_ _) | (with_reducible refine Kd.C_drewN ?_ _) | (with_reducible refine Kd.C_drew ?_))); (case side2 => exact HC0.out); rintro e w14 ⟨rfl, hb⟩; have n0_ := Aside0.mk (below_step (by repeat (first | (with_reducible first | exact HB.out | apply below_alloc | apply pw_below_drewN | apply below_drew1) | exact HB.out)) hb); clear HB; have HB := n0_; clear n0_; (try clear hb); (try clear hb2); (try clear hk); (try clear hi)) | (go_at_call 31; (with_reducible refine (laws_at.calls _ _ l1 0 60 t920 _ ?side1 ?side2 A7.out).mono ?_); (case side1 => repeat (first | exact (Kd.C_below HR1.out HB.out) | (with_reducible refine Kd.C_alloc ?_ _) | (with_reducible refine Kd.C_drewN ?_ _) | (with_reducible refine Kd.C_drew ?_))); (case side2 => exact HC1.out); rintro e w' ⟨rfl, ⟨nd, rfl⟩⟩; (try first | exact ⟨rfl, _, World.drewN_drewN _ _ _⟩ | exact ⟨rfl, _, Eq.trans (World.drewN_drewN _ _ _) (congrArg (World.drewN _) (Nat.add_assoc _ _ _))⟩)) | (go_at_call 31; (with_reducible refine (laws_at.calls _ _ l1 1 60 t921 _ ?side1 ?side2 A8.out).mono ?_); (case side1 => repeat (first | exact (Kd.C_below HR1.out (by repeat (first | (with_reducible first | exact HB.out | apply below_alloc | apply pw_below_drewN | apply below_drew1) | exact HB.out))) | (with_reducible refine Kd.C_alloc ?_ _) | (with_reducible refine Kd.C_drewN ?_ _) | (with_reducible refine Kd.C_drew ?_))); (case side2 => exact HC1.out); rintro e w' ⟨rfl, ⟨nd, rfl⟩⟩; (try first | exact ⟨rfl, _, World.drewN_drewN _ _ _⟩ | exact ⟨rfl, _, Eq.trans (World.drewN_drewN _ _ _) (congrArg (World.drewN _) (Nat.add_assoc _ _ _))⟩)) | (go_at_call 28; (with_reducible refine (impl_Pow.calls kj2 t919 t920 t922 t923 _ A9.out).mono ?_); rintro e w' ⟨rfl, ⟨nd, rfl⟩⟩; (try first | exact ⟨rfl, _, World.drewN_drewN _ _ _⟩ | exact ⟨rfl, _, Eq.trans (World.drewN_drewN _ _ _) (congrArg (World.drewN _) (Nat.add_assoc _ _ _))⟩)) | (go_at_call 28; (with_reducible refine (impl_Pow.calls kj2 t919 t921 t924 t925 _ A10.out).mono ?_); rintro e w' ⟨rfl, ⟨nd, rfl⟩⟩; (try first | exact ⟨rfl, _, World.drewN_drewN _ _ _⟩ | exact ⟨rfl, _, Eq.trans (World.drewN_drewN _ _ _) (congrArg (World.drewN _) (Nat.add_assoc _ _ _))⟩)) | (go_at_call 28; (with_reducible refine (impl_Pow.calls kj2 t919 (wrap64 (t920 + t921)) t926 t927 _ A11.out).mono ?_); rintro e w' ⟨rfl, ⟨nd, rfl⟩⟩; (try first | exact ⟨rfl, _, World.drewN_drewN _ _ _⟩ | exact ⟨rfl, _, Eq.trans (World.drewN_drewN _ _ _) (congrArg (World.drewN _) (Nat.add_assoc _ _ _))⟩)) | (go_at_call 33; (with_reducible refine (impl_Mul.calls t922 t924 t928 t929 _ A12.out).mono ?_); rintro e w' ⟨rfl, ⟨nd, rfl⟩⟩; (try first | exact ⟨rfl, _, World.drewN_drewN _ _ _⟩ | exact ⟨rfl, _, Eq.trans (World.drewN_drewN _ _ _) (congrArg (World.drewN _) (Nat.add_assoc _ _ _))⟩))); go_upto_region 10 with (first | (go_at_call 39; (with_reducible refine (spec_FieldOf.calls kj2 _ _ l0 t919 _ ?side1 ?side2 A6.out).mono ?_); (case side1 => repeat (first | exact (Kd.C_below HR0.out HB.out) | (with_reducible refine Kd.C_alloc ?_ _) | (with_reducible refine Kd.C_drewN ?_ _) | (with_reducible refine Kd.C_drew ?_))); (case side2 => exact HC0.out); rintro e w14 ⟨rfl, hb⟩; have n0_ := Aside0.mk (below_step (by repeat (first | (with_reducible first | exact HB.out | apply below_alloc | apply pw_below_drewN | apply below_drew1) | exact HB.out)) hb); clear HB; have HB := n0_; clear n0_; (try clear hb); (try clear hb2); (try clear hk); (try clear hi)) | (go_at_call 31; (with_reducible refine (laws_at.calls _ _ l1 0 60 t920 _ ?side1 ?side2 A7.out).mono ?_); (case side1 => repeat (first | exact (Kd.C_below HR1.out HB.out) | (with_reducible refine Kd.C_alloc ?_ _) | (with_reducible refine Kd.C_drewN ?_ _) | (with_reducible refine Kd.C_drew ?_))); (case side2 => exact HC1.out); rintro e w' ⟨rfl, ⟨nd, rfl⟩⟩; (try first | exact ⟨rfl, _, World.drewN_drewN _ _ _⟩ | exact ⟨rfl, _, Eq.trans (World.drewN_drewN _ _ _) (congrArg (World.drewN _) (Nat.add_assoc _ _ _))⟩)) | (go_at_call 31; (with_reducible refine (laws_at.calls _ _ l1 1 60 t921 _ ?side1 ?side2 A8.out).mono ?_); (case side1 => repeat (first | exact (Kd.C_below HR1.out (by repeat (first | (with_reducible first | exact HB.out | apply below_alloc | apply pw_below_drewN | apply below_drew1) | exact HB.out))) | (with_reducible refine Kd.C_alloc ?_ _) | (with_reducible refine Kd.C_drewN ?_ _) | (with_reducible refine Kd.C_drew ?_))); (case side2 => exact HC1.out); rintro e w' ⟨rfl, ⟨nd, rfl⟩⟩; (try first | exact ⟨rfl, _, World.drewN_drewN _ _ _⟩ | exact ⟨rfl, _, Eq.trans (World.drewN_drewN _ _ _) (congrArg (World.drewN _) (Nat.add_assoc _ _ _))⟩)) | (go_at_call 28; (with_reducible refine (impl_Pow.calls kj2 t919 t920 t922 t923 _ A9.out).mono ?_); rintro e w' ⟨rfl, ⟨nd, rfl⟩⟩; (try first | exact ⟨rfl, _, World.drewN_drewN _ _ _⟩ | exact ⟨rfl, _, Eq.trans (World.drewN_drewN _ _ _) (congrArg (World.drewN _) (Nat.add_assoc _ _ _))⟩)) | (go_at_call 28; (with_reducible refine (impl_Pow.calls kj2 t919 t921 t924 t925 _ A10.out).mono ?_); rintro e w' ⟨rfl, ⟨nd, rfl⟩⟩; (try first | exact ⟨rfl, _, World.drewN_drewN _ _ _⟩ | exact ⟨rfl, _, Eq.trans (World.drewN_drewN _ _ _) (congrArg (World.drewN _) (Nat.add_assoc _ _ _))⟩)) | (go_at_call 28; (with_reducible refine (impl_Pow.calls kj2 t919 (wrap64 (t920 + t921)) t926 t927 _ A11.out).mono ?_); rintro e w' ⟨rfl, ⟨nd, rfl⟩⟩; (try first | exact ⟨rfl, _, World.drewN_drewN _ _ _⟩ | exact ⟨rfl, _, Eq.trans (World.drewN_drewN _ _ _) (congrArg (World.drewN _) (Nat.add_assoc _ _ _))⟩)) | (go_at_call 33; (with_reducible refine (impl_Mul.calls t922 t924 t928 t929 _ A12.out).mono ?_); rintro e w' ⟨rfl, ⟨nd, rfl⟩⟩; (try first | exact ⟨rfl, _, World.drewN_drewN _ _ _⟩ | exact ⟨rfl, _, Eq.trans (World.drewN_drewN _ _ _) (congrArg (World.drewN _) (Nat.add_assoc _ _ _))⟩))))
        (try simp only [Act.put, List.setIfInBounds_toArray, List.set_cons_zero, List.set_cons_succ])
        go_cut [81] (fun v81 wc => ∃ (kq : Nat) (x81_12 : Bool), v81 = .bool x81_12 ∧ Aside0 (laws_FnPowers.j1 kq t919 x81_12 = some r) ∧ Aside0 (kq ≤ kj2) ∧ Aside0 (Below w.heap.size w wc))
        case first =>
          have H := HC13.out
          clear HC13
          by_cases c15 : t923 = 0
          · rw [if_pos c15] at H
            have c15b0 : (t923 == 0) = true := beq_iff_eq.mpr c15
            have c15b1 : (t923 != 0) = false := bne_eq_false_iff_eq.mpr c15
            clear c15
            (first | rw [c15b0] | (simp only [i64_w, i32_w]; rw [c15b0]) | skip)
            by_cases c16 : t925 = 0
            · rw [if_pos c16] at H
              have c16b0 : (t925 == 0) = true := beq_iff_eq.mpr c16
              have c16b1 : (t925 != 0) = false := bne_eq_false_iff_eq.mpr c16
              clear c16
              by_cases c17 : t927 = 0
              · rw [if_pos c17] at H
                have c17b0 : (t927 == 0) = true := beq_iff_eq.mpr c17
                have c17b1 : (t927 != 0) = false := bne_eq_false_iff_eq.mpr c17
                clear c17
                by_cases c18 : t929 = 0
                · rw [if_pos c18] at H
                  have c18b0 : (t929 == 0) = true := beq_iff_eq.mpr c18
                  have c18b1 : (t929 != 0) = false := bne_eq_false_iff_eq.mpr c18
                  clear c18
                  have H' := Aside0.mk H
                  clear H
                  go_wp2
                  repeat (go_quiet (fail); try go_wp2)
                  go_meet
                  case rel => exact ⟨_, ((t926 != t928)), (by first | rfl | (simp; done) | (simp [*]; done)), H', ⟨by have := HJ2.out; first | omega | exact Nat.le_refl _⟩, ⟨by repeat (first | (with_reducible first | exact HB.out | apply below_alloc | apply pw_below_drewN | apply below_drew1) | exact HB.out)⟩⟩
                · rw [if_neg c18] at H
                  have c18b0 : (t929 == 0) = false := beq_eq_false_iff_ne.mpr c18
                  have c18b1 : (t929 != 0) = true := bne_iff_ne.mpr c18
                  have H' := Aside0.mk H
                  clear H
                  go_wp2
                  repeat (go_quiet (fail); try go_wp2)
                  go_meet
                  case rel => exact ⟨_, (true), (by first | rfl | (simp; done) | (simp [*]; done)), H', ⟨by have := HJ2.out; first | omega | exact Nat.le_refl _⟩, ⟨by repeat (first | (with_reducible first | exact HB.out | apply below_alloc | apply pw_below_drewN | apply below_drew1) | exact HB.out)⟩⟩
              · rw [if_neg c17] at H
                have c17b0 : (t927 == 0) = false := beq_eq_false_iff_ne.mpr c17
                have c17b1 : (t927 != 0) = true := bne_iff_ne.mpr c17
                have H' := Aside0.mk H
                clear H
                go_wp2
                repeat (go_quiet (fail); try go_wp2)
                go_meet
                case rel => exact ⟨_, (true), (by first | rfl | (simp; done) | (simp [*]; done)), H', ⟨by have := HJ2.out; first | omega | exact Nat.le_refl _⟩, ⟨by repeat (first | (with_reducible first | exact HB.out | apply below_alloc | apply pw_below_drewN | apply below_drew1) | exact HB.out)⟩⟩
            · rw [if_neg c16] at H
              have c16b0 : (t925 == 0) = false := beq_eq_false_iff_ne.mpr c16
              have c16b1 : (t925 != 0) = true := bne_iff_ne.mpr c16
              have H' := Aside0.mk H
              clear H
              go_wp2
              repeat (go_quiet (fail); try go_wp2)
              go_meet
              case rel => exact ⟨_, (true), (by first | rfl | (simp; done) | (simp [*]; done)), H', ⟨by have := HJ2.out; first | omega | exact Nat.le_refl _⟩, ⟨by repeat (first | (with_reducible first | exact HB.out | apply below_alloc | apply pw_below_drewN | apply below_drew1) | exact HB.out)⟩⟩
          · rw [if_neg c15] at H
            have c15b0 : (t923 == 0) = false := beq_eq_false_iff_ne.mpr c15
            have c15b1 : (t923 != 0) = true := bne_iff_ne.mpr c15
            (first | rw [c15b0] | (simp only [i64_w, i32_w]; rw [c15b0]) | skip)
            have H' := Aside0.mk H
            clear H
            go_wp2
            repeat (go_quiet (fail); try go_wp2)
            go_meet
            case rel => exact ⟨_, (true), (by first | rfl | (simp; done) | (simp [*]; done)), H', ⟨by have := HJ2.out; first | omega | exact Nat.le_refl _⟩, ⟨by repeat (first | (with_reducible first | exact HB.out | apply below_alloc | apply pw_below_drewN | apply below_drew1) | exact HB.out)⟩⟩
        case rest =>
          clear HC13
          try clear c1
          try clear p2
          try clear c4
          try clear c4b0
          try clear c4b1
          try clear c5
          try clear p6
          try clear c15
          try clear c15b0
          try clear c15b1
          try clear c16
          try clear c16b0
          try clear c16b1
          try clear c17
          try clear c17b0
          try clear c17b1
          try clear c18
          try clear c18b0
          try clear c18b1
          try clear p2
          obtain ⟨kq, x81_12, rfl, HA, HJ12, HB⟩ := hcut
          cases kq with
          | zero => exact absurd HA.out (by simp [laws_FnPowers.j1])
          | succ kj12 =>
            have H := HA.out
            clear HA
            simp only [laws_FnPowers.j1] at H
            by_cases c19 : x81_12 = true
            · subst c19
              have H1 : (none) = some r := by rw [if_pos rfl] at H; exact H
              clear H
              have H := H1
              clear H1
              exact absurd H (by simp)
            · replace c19 := Bool.eq_false_iff.mpr c19
              subst c19
              have H1 : ((impl_Pow.f kj12 t919 2130706432).bind fun bt930 => (if bt930.2 = 0 then (if bt930.1 = 1 then (if bt930.1 = 0 then (laws_FnPowers.j2 kj12 t919 false) else (laws_FnPowers.j2 kj12 t919 (t919 == 0))) else (if t919 = 0 then (if bt930.1 = 0 then (laws_FnPowers.j2 kj12 t919 false) else (laws_FnPowers.j2 kj12 t919 (t919 == 0))) else (laws_FnPowers.j2 kj12 t919 true))) else (laws_FnPowers.j2 kj12 t919 true))) = some r := by rw [if_neg (show ¬ (false = true) by decide)] at H; exact H
              clear H
              have H := H1
              clear H1
              replace H := Option.bind_eq_some_iff.mp H
              obtain ⟨⟨t930, t931⟩, A200, H⟩ := H
              replace H : (if t931 = 0 then (if t930 = 1 then (if t930 = 0 then (laws_FnPowers.j2 kj12 t919 false) else (laws_FnPowers.j2 kj12 t919 (t919 == 0))) else (if t919 = 0 then (if t930 = 0 then (laws_FnPowers.j2 kj12 t919 false) else (laws_FnPowers.j2 kj12 t919 (t919 == 0))) else (laws_FnPowers.j2 kj12 t919 true))) else (laws_FnPowers.j2 kj12 t919 true)) = some r := H
              have A20 := Aside0.mk A200
              clear A200
              have HC21 := Aside0.mk H
              clear H
              go_upto_region 13 with (first | (go_at_call 28; (with_reducible refine (impl_Pow.calls kj12 t919 2130706432 t930 t931 _ A20.out).mono ?_); rintro e w' ⟨rfl, ⟨nd, rfl⟩⟩; (try first | exact ⟨rfl, _, World.drewN_drewN _ _ _⟩ | exact ⟨rfl, _, Eq.trans (World.drewN_drewN _ _ _) (congrArg (World.drewN _) (Nat.add_assoc _ _ _))⟩)))
              repeat (go_quiet (first | (go_at_call 28; (with_reducible refine (impl_Pow.calls kj12 t919 2130706432 t930 t931 _ A20.out).mono ?_); rintro e w' ⟨rfl, ⟨nd, rfl⟩⟩; (try first | exact ⟨rfl, _, World.drewN_drewN _ _ _⟩ | exact ⟨rfl, _, Eq.trans (World.drewN_drewN _ _ _) (congrArg (World.drewN _) (Nat.add_assoc _ _ _))⟩))); go_upto_region 13 with (first | (go_at_call 28; (with_reducible refine (impl_Pow.calls kj12 t919 2130706432 t930 t931 _ A20.out).mono ?_); rintro e w' ⟨rfl, ⟨nd, rfl⟩⟩; (try first | exact ⟨rfl, _, World.drewN_drewN _ _ _⟩ | exact ⟨rfl, _, Eq.trans (World.drewN_drewN _ _ _) (congrArg (World.drewN _) (Nat.add_assoc _ _ _))⟩))))
              (try simp only [Act.put, List.setIfInBounds_toArray, List.set_cons_zero, List.set_cons_succ])
              go_cut [104] (fun v104 wc => ∃ (kq : Nat) (x104_20 : Bool), v104 = .bool x104_20 ∧ Aside0 (laws_FnPowers.j2 kq t919 x104_20 = some r) ∧ Aside0 (kq ≤ kj12) ∧ Aside0 (Below w.heap.size w wc))
              case first =>
                have H := HC21.out
                clear HC21
                by_cases c22 : t931 = 0
                · rw [if_pos c22] at H
                  have c22b0 : (t931 == 0) = true := beq_iff_eq.mpr c22
                  have c22b1 : (t931 != 0) = false := bne_eq_false_iff_eq.mpr c22
                  clear c22
                  (first | rw [c22b0] | (simp only [i64_w, i32_w]; rw [c22b0]) | skip)
                  by_cases c23 : t930 = 1
                  · rw [if_pos c23] at H
                    have c23b0 : (t930 == 1) = true := beq_iff_eq.mpr c23
                    have c23b1 : (t930 != 1) = false := bne_eq_false_iff_eq.mpr c23
                    clear c23
                    by_cases c24 : t930 = 0
                    · rw [if_pos c24] at H
                      have c24b0 : (t930 == 0) = true := beq_iff_eq.mpr c24
                      have c24b1 : (t930 != 0) = false := bne_eq_false_iff_eq.mpr c24
                      clear c24
                      have H' := Aside0.mk H
                      clear H
                      go_wp2
                      repeat (go_quiet (fail); try go_wp2)
                      go_meet
                      case rel => exact ⟨_, (false), (by first | rfl | (simp; done) | (simp [*]; done)), H', ⟨by have := HJ2.out; have := HJ12.out; first | omega | exact Nat.le_refl _⟩, ⟨by repeat (first | (with_reducible first | exact HB.out | apply below_alloc | apply pw_below_drewN | apply below_drew1) | exact HB.out)⟩⟩
                    · rw [if_neg c24] at H
                      have c24b0 : (t930 == 0) = false := beq_eq_false_iff_ne.mpr c24
                      have c24b1 : (t930 != 0) = true := bne_iff_ne.mpr c24
                      have H' := Aside0.mk H
                      clear H
                      go_wp2
                      repeat (go_quiet (fail); try go_wp2)
                      go_meet
                      case rel => exact ⟨_, ((t919 == 0)), (by first | rfl | (simp; done) | (simp [*]; done)), H', ⟨by have := HJ2.out; have := HJ12.out; first | omega | exact Nat.le_refl _⟩, ⟨by repeat (first | (with_reducible first | exact HB.out | apply below_alloc | apply pw_below_drewN | apply below_drew1) | exact HB.out)⟩⟩
                  · rw [if_neg c23] at H
                    have c23b0 : (t930 == 1) = false := beq_eq_false_iff_ne.mpr c23
                    have c23b1 : (t930 != 1) = true := bne_iff_ne.mpr c23
                    by_cases c25 : t919 = 0
                    · rw [if_pos c25] at H
                      have c25b0 : (t919 == 0) = true := beq_iff_eq.mpr c25
                      have c25b1 : (t919 != 0) = false := bne_eq_false_iff_eq.mpr c25
                      clear c25
                      by_cases c26 : t930 = 0
                      · rw [if_pos c26] at H
                        have c26b0 : (t930 == 0) = true := beq_iff_eq.mpr c26
                        have c26b1 : (t930 != 0) = false := bne_eq_false_iff_eq.mpr c26
                        clear c26
                        have H' := Aside0.mk H
                        clear H
                        go_wp2
                        repeat (go_quiet (fail); try go_wp2)
                        go_meet
                        case rel => exact ⟨_, (false), (by first | rfl | (simp; done) | (simp [*]; done)), H', ⟨by have := HJ2.out; have := HJ12.out; first | omega | exact Nat.le_refl _⟩, ⟨by repeat (first | (with_reducible first | exact HB.out | apply below_alloc | apply pw_below_drewN | apply below_drew1) | exact HB.out)⟩⟩
                      · rw [if_neg c26] at H
                        have c26b0 : (t930 == 0) = false := beq_eq_false_iff_ne.mpr c26
                        have c26b1 : (t930 != 0) = true := bne_iff_ne.mpr c26
                        have H' := Aside0.mk H
                        clear H
                        go_wp2
                        repeat (go_quiet (fail); try go_wp2)
                        go_meet
                        case rel => exact ⟨_, ((t919 == 0)), (by first | rfl | (simp; done) | (simp [*]; done)), H', ⟨by have := HJ2.out; have := HJ12.out; first | omega | exact Nat.le_refl _⟩, ⟨by repeat (first | (with_reducible first | exact HB.out | apply below_alloc | apply pw_below_drewN | apply below_drew1) | exact HB.out)⟩⟩
                    · rw [if_neg c25] at H
                      have c25b0 : (t919 == 0) = false := beq_eq_false_iff_ne.mpr c25
                      have c25b1 : (t919 != 0) = true := bne_iff_ne.mpr c25
                      have H' := Aside0.mk H
                      clear H
                      go_wp2
                      repeat (go_quiet (fail); try go_wp2)
                      go_meet
                      case rel => exact ⟨_, (true), (by first | rfl | (simp; done) | (simp [*]; done)), H', ⟨by have := HJ2.out; have := HJ12.out; first | omega | exact Nat.le_refl _⟩, ⟨by repeat (first | (with_reducible first | exact HB.out | apply below_alloc | apply pw_below_drewN | apply below_drew1) | exact HB.out)⟩⟩
                · rw [if_neg c22] at H
                  have c22b0 : (t931 == 0) = false := beq_eq_false_iff_ne.mpr c22
                  have c22b1 : (t931 != 0) = true := bne_iff_ne.mpr c22
                  (first | rw [c22b0] | (simp only [i64_w, i32_w]; rw [c22b0]) | skip)
                  have H' := Aside0.mk H
                  clear H
                  go_wp2
                  repeat (go_quiet (fail); try go_wp2)
                  go_meet
                  case rel => exact ⟨_, (true), (by first | rfl | (simp; done) | (simp [*]; done)), H', ⟨by have := HJ2.out; have := HJ12.out; first | omega | exact Nat.le_refl _⟩, ⟨by repeat (first | (with_reducible first | exact HB.out | apply below_alloc | apply pw_below_drewN | apply below_drew1) | exact HB.out)⟩⟩
              case rest =>
                clear HC21
                try clear c1
                try clear c2
                try clear p2
                try clear c4
                try clear c4b0
                try clear c4b1
                try clear c5
                try clear p6
                try clear c15
                try clear c15b0
                try clear c15b1
                try clear c16
                try clear c16b0
                try clear c16b1
                try clear c17
                try clear c17b0
                try clear c17b1
                try clear c18
                try clear c18b0
                try clear c18b1
                try clear c19
                try clear c22
                try clear c22b0
                try clear c22b1
                try clear c23
                try clear c23b0
                try clear c23b1
                try clear c24
                try clear c24b0
                try clear c24b1
                try clear c25
                try clear c25b0
                try clear c25b1
                try clear c26
                try clear c26b0
                try clear c26b1
                try clear p2
                try clear p6
                obtain ⟨kq, x104_20, rfl, HA, HJ20, HB⟩ := hcut
                cases kq with
                | zero => exact absurd HA.out (by simp [laws_FnPowers.j2])
                | succ kj20 =>
                  have H := HA.out
                  clear HA
                  simp only [laws_FnPowers.j2] at H
                  by_cases c27 : x104_20 = true
                  · subst c27
                    have H1 : (none) = some r := by rw [if_pos rfl] at H; exact H
                    clear H
                    have H := H1
                    clear H1
                    exact absurd H (by simp)
                  · replace c27 := Bool.eq_false_iff.mpr c27
                    subst c27
                    have H1 : (if t919 = 0 then (some true) else ((some (([t919, 1, 2130706432, t919] : List Int) : List Int)).bind fun y932 => ((impl_BatchInverse.f kj20 y932).bind fun bt935 => ((spec_BatchInverse.f kj20 y932).bind fun bt939 => (if bt935.2 = 0 then ((laws_sameInts.f kj20 bt935.1 bt939.1).bind fun t943 => (if t943 = true then (if 0 < (bt935.1.length : Int) then (if 3 < (bt935.1.length : Int) then (if (rd bt935.1 0) = (rd bt935.1 3) then (if 1 < (bt935.1.length : Int) then (if (rd bt935.1 1) = 1 then (if 2 < (bt935.1.length : Int) then (some ((rd bt935.1 2) == 2130706432)) else (none)) else (none)) else (none)) else (none)) else (none)) else (none)) else (none))) else (none)))))) = some r := by rw [if_neg (show ¬ (false = true) by decide)] at H; exact H
                    clear H
                    have H := H1
                    clear H1
                    by_cases c28 : t919 = 0
                    · rw [if_pos c28] at H
                      have c28b0 : (t919 == 0) = true := beq_iff_eq.mpr c28
                      have c28b1 : (t919 != 0) = false := bne_eq_false_iff_eq.mpr c28
                      clear c28
                      obtain rfl := Option.some.inj H
                      go_wp2
                      repeat (go_quiet (fail); try go_wp2)
                      go_ret
                      exact ⟨by first | rfl | (simp [errW_none, errW_some] <;> rfl) | (simp [*, errW_none, errW_some] <;> rfl), by repeat (first | (with_reducible first | exact HB.out | apply below_alloc | apply pw_below_drewN | apply below_drew1) | exact HB.out)⟩
                    · rw [if_neg c28] at H
                      have c28b0 : (t919 == 0) = false := beq_eq_false_iff_ne.mpr c28
                      have c28b1 : (t919 != 0) = true := bne_iff_ne.mpr c28
                      obtain ⟨y932, hy932⟩ : ∃ y_ : List Int, y_ = (([t919, 1, 2130706432, t919] : List Int)) := ⟨_, rfl⟩
                      replace H : ((impl_BatchInverse.f kj20 y932).bind fun bt935 => ((spec_BatchInverse.f kj20 y932).bind fun bt939 => (if bt935.2 = 0 then ((laws_sameInts.f kj20 bt935.1 bt939.1).bind fun t943 => (if t943 = true then (if 0 < (bt935.1.length : Int) then (if 3 < (bt935.1.length : Int) then (if (rd bt935.1 0) = (rd bt935.1 3) then (if 1 < (bt935.1.length : Int) then (if (rd bt935.1 1) = 1 then (if 2 < (bt935.1.length : Int) then (some ((rd bt935.1 2) == 2130706432)) else (none)) else (none)) else (none)) else (none)) else (none)) else (none)) else (none))) else (none)))) = some r := by first | (rw [hy932]; with_reducible exact H) | (have H2_ := (Option.bind_some _ _).symm.trans H; rw [hy932]; with_reducible exact H2_) | (have H2_ := (Option.bind_some _ _).symm.trans H; with_reducible exact H2_) | with_reducible exact H | (rw [hy932]; exact H) | exact H
                      have Ny932 := Aside0.mk hy932
                      clear hy932
                      replace H := Option.bind_eq_some_iff.mp H
                      obtain ⟨⟨t935, t936⟩, A290, H⟩ := H
                      replace H : ((spec_BatchInverse.f kj20 y932).bind fun bt939 => (if t936 = 0 then ((laws_sameInts.f kj20 t935 bt939.1).bind fun t943 => (if t943 = true then (if 0 < (t935.length : Int) then (if 3 < (t935.length : Int) then (if (rd t935 0) = (rd t935 3) then (if 1 < (t935.length : Int) then (if (rd t935 1) = 1 then (if 2 < (t935.length : Int) then (some ((rd t935 2) == 2130706432)) else (none)) else (none)) else (none)) else (none)) else (none)) else (none)) else (none))) else (none))) = some r := H
                      have A29 := Aside0.mk A290
                      clear A290
                      replace H := Option.bind_eq_some_iff.mp H
                      obtain ⟨⟨t939, t940⟩, A300, H⟩ := H
                      replace H : (if t936 = 0 then ((laws_sameInts.f kj20 t935 t939).bind fun t943 => (if t943 = true then (if 0 < (t935.length : Int) then (if 3 < (t935.length : Int) then (if (rd t935 0) = (rd t935 3) then (if 1 < (t935.length : Int) then (if (rd t935 1) = 1 then (if 2 < (t935.length : Int) then (some ((rd t935 2) == 2130706432)) else (none)) else (none)) else (none)) else (none)) else (none)) else (none)) else (none))) else (none)) = some r := H
                      have A30 := Aside0.mk A300
                      clear A300
                      by_cases c31 : t936 = 0
                      · rw [if_pos c31] at H
                        have c31b0 : (t936 == 0) = true := beq_iff_eq.mpr c31
                        have c31b1 : (t936 != 0) = false := bne_eq_false_iff_eq.mpr c31
                        clear c31
                        replace H := Option.bind_eq_some_iff.mp H
                        obtain ⟨t943, A320, H⟩ := H
                        replace H : (if t943 = true then (if 0 < (t935.length : Int) then (if 3 < (t935.length : Int) then (if (rd t935 0) = (rd t935 3) then (if 1 < (t935.length : Int) then (if (rd t935 1) = 1 then (if 2 < (t935.length : Int) then (some ((rd t935 2) == 2130706432)) else (none)) else (none)) else (none)) else (none)) else (none)) else (none)) else (none)) = some r := H
                        have A32 := Aside0.mk A320
                        clear A320
                        by_cases c33 : t943 = true
                        · subst c33
                          have H1 : (if 0 < (t935.length : Int) then (if 3 < (t935.length : Int) then (if (rd t935 0) = (rd t935 3) then (if 1 < (t935.length : Int) then (if (rd t935 1) = 1 then (if 2 < (t935.length : Int) then (some ((rd t935 2) == 2130706432)) else (none)) else (none)) else (none)) else (none)) else (none)) else (none)) = some r := by rw [if_pos rfl] at H; exact H
                          clear H
                          have H := H1
                          clear H1
                          by_cases c34 : 0 < (t935.length : Int)
                          · rw [if_pos c34] at H
                            have c34b0 : decide (0 < (t935.length : Int)) = true := decide_eq_true c34
                            have c34b1 : decide (0 < t935.length) = true := decide_eq_true (by omega)
                            clear c34
                            by_cases c35 : 3 < (t935.length : Int)
                            · rw [if_pos c35] at H
                              have c35b0 : decide (3 < (t935.length : Int)) = true := decide_eq_true c35
                              have c35b1 : decide (3 < t935.length) = true := decide_eq_true (by omega)
                              clear c35
                              by_cases c36 : (rd t935 0) = (rd t935 3)
                              · rw [if_pos c36] at H
                                have c36b0 : ((rd t935 0) == (rd t935 3)) = true := beq_iff_eq.mpr c36
                                have c36b1 : ((rd t935 0) != (rd t935 3)) = false := bne_eq_false_iff_eq.mpr c36
                                clear c36
                                by_cases c37 : 1 < (t935.length : Int)
                                · rw [if_pos c37] at H
                                  have c37b0 : decide (1 < (t935.length : Int)) = true := decide_eq_true c37
                                  have c37b1 : decide (1 < t935.length) = true := decide_eq_true (by omega)
                                  clear c37
                                  by_cases c38 : (rd t935 1) = 1
                                  · rw [if_pos c38] at H
                                    have c38b0 : ((rd t935 1) == 1) = true := beq_iff_eq.mpr c38
                                    have c38b1 : ((rd t935 1) != 1) = false := bne_eq_false_iff_eq.mpr c38
                                    clear c38
                                    by_cases c39 : 2 < (t935.length : Int)
                                    · rw [if_pos c39] at H
                                      have c39b0 : decide (2 < (t935.length : Int)) = true := decide_eq_true c39
                                      have c39b1 : decide (2 < t935.length) = true := decide_eq_true (by omega)
                                      clear c39
                                      obtain rfl := Option.some.inj H
                                      go_wp2_with (first | ((with_reducible refine gate_dst (N := 109) rfl ?_); (try (refine gate_guard (by rfl) ?_; dsimp only)); refine Kd.R_lit (Kd.int .i64) _ 3 ?hg (N := 109) ?hd (xs := ([t919, 1, 2130706432, t919] : List Int)) (inner := [.int .i64 t919, .int .i64 1, .int .i64 2130706432, .int .i64 t919]) (ok := fun _ => True) (okp := fun _ => True) ?hr ?hp (fun _ hk => hk) trivial (Below.refl _ _) (Nat.le_refl _) (by simp) ?_; (case hd => rfl); (case hg => rfl); (case hr => first | (go_simp; done) | (go_simp; rfl)); (case hp => exact (Reps.one (show Kd.M (Kd.int .i64) _ _ _ t919 [.int .i64 t919] from rfl) (Reps.one (show Kd.M (Kd.int .i64) _ _ _ 1 [.int .i64 1] from rfl) (Reps.one (show Kd.M (Kd.int .i64) _ _ _ 2130706432 [.int .i64 2130706432] from rfl) (Reps.one (show Kd.M (Kd.int .i64) _ _ _ t919 [.int .i64 t919] from rfl) (Reps.none _ _)))))); intro v933 w40 ho41 hb hg_ hnew_; clear hg_ hnew_; (first | rw [← Ny932.out] at ho41 | (simp only [Int.reduceToNat] at ho41; rw [← Ny932.out] at ho41)); have n0_ := Aside0.mk (Kd.R_lower ho41 (below_size (by repeat (first | (with_reducible first | exact HB.out | apply below_alloc | apply pw_below_drewN | apply below_drew1) | exact HB.out)))); have n1_ := Aside0.mk (below_step (by repeat (first | (with_reducible first | exact HB.out | apply below_alloc | apply pw_below_drewN | apply below_drew1) | exact HB.out)) hb); clear HB; have HO934 := n0_; have HB := n1_; clear n0_ n1_; clear hb ho41; obtain ⟨Ao42, co42, eo42⟩ := Kd.R_slice HO934.out; subst eo42) | (go_at_call 53; (with_reducible refine (impl_BatchInverse.calls kj20 _ _ y932 t935 t936 _ ?side1 ?side2 A29.out).mono ?_); (case side1 => repeat (first | exact (Kd.R_reads' HO934.out).2.2 | (with_reducible refine Kd.C_alloc ?_ _) | (with_reducible refine Kd.C_drewN ?_ _) | (with_reducible refine Kd.C_drew ?_))); (case side2 => exact (Kd.R_reads' HO934.out).2.1); rintro e w43 ⟨v937, rfl, ho0, hb⟩; have n0_ := Aside0.mk (Kd.R_elder' (by (with_reducible repeat (first | apply Kd.R_alloc | apply Kd.R_drewN | apply Kd.R_drew)); exact HO934.out) (Kd.R_base ho0) hb); have n1_ := Aside0.mk (Kd.R_lower (Kd.R_new' ho0 (Kd.R_lt (by (with_reducible repeat (first | apply Kd.R_alloc | apply Kd.R_drewN | apply Kd.R_drew)); exact HO934.out))) (below_size (by repeat (first | (with_reducible first | exact HB.out | apply below_alloc | apply pw_below_drewN | apply below_drew1) | exact HB.out)))); have n2_ := Aside0.mk (below_step (by repeat (first | (with_reducible first | exact HB.out | apply below_alloc | apply pw_below_drewN | apply below_drew1) | exact HB.out)) hb); clear HO934; clear HB; have HO934 := n0_; have HO938 := n1_; have HB := n2_; clear n0_ n1_ n2_; (try clear hb); (try clear hb2); (try clear hk); (try clear hi); (try clear ho0)) | (go_at_call 51; (with_reducible refine (spec_BatchInverse.calls kj20 _ _ y932 t939 t940 _ ?side1 ?side2 A30.out).mono ?_); (case side1 => repeat (first | exact (Kd.R_reads' HO934.out).2.2 | (with_reducible refine Kd.C_alloc ?_ _) | (with_reducible refine Kd.C_drewN ?_ _) | (with_reducible refine Kd.C_drew ?_))); (case side2 => exact (Kd.R_reads' HO934.out).2.1); rintro e w44 ⟨v941, rfl, ho0, hb⟩; have n0_ := Aside0.mk (Kd.R_elder' (by (with_reducible repeat (first | apply Kd.R_alloc | apply Kd.R_drewN | apply Kd.R_drew)); exact HO934.out) (Kd.R_base ho0) hb); have n1_ := Aside0.mk (Kd.R_elder' (by (with_reducible repeat (first | apply Kd.R_alloc | apply Kd.R_drewN | apply Kd.R_drew)); exact HO938.out) (Kd.R_base ho0) hb); have n2_ := Aside0.mk (Kd.R_lower (Kd.R_new' (Kd.R_new' ho0 (Kd.R_lt (by (with_reducible repeat (first | apply Kd.R_alloc | apply Kd.R_drewN | apply Kd.R_drew)); exact HO934.out))) (Kd.R_lt (by (with_reducible repeat (first | apply Kd.R_alloc | apply Kd.R_drewN | apply Kd.R_drew)); exact HO938.out))) (below_size (by repeat (first | (with_reducible first | exact HB.out | apply below_alloc | apply pw_below_drewN | apply below_drew1) | exact HB.out)))); have n3_ := Aside0.mk (below_step (by repeat (first | (with_reducible first | exact HB.out | apply below_alloc | apply pw_below_drewN | apply below_drew1) | exact HB.out)) hb); clear HO934; clear HO938; clear HB; have HO934 := n0_; have HO938 := n1_; have HO942 := n2_; have HB := n3_; clear n0_ n1_ n2_ n3_; (try clear hb); (try clear hb2); (try clear hk); (try clear hi); (try clear ho0); obtain ⟨Ao45, co45, eo45⟩ := Kd.R_slice HO938.out; subst eo45; obtain ⟨Ao46, co46, eo46⟩ := Kd.R_slice HO942.out; subst eo46) | (go_at_call 72; (with_reducible refine (laws_sameInts.calls kj20 _ _ t935 _ _ t939 true _ ?side1 ?side2 ?side3 ?side4 A32.out).mono ?_); (case side1 => repeat (first | exact (Kd.R_reads' HO938.out).2.2 | (with_reducible refine Kd.C_alloc ?_ _) | (with_reducible refine Kd.C_drewN ?_ _) | (with_reducible refine Kd.C_drew ?_))); (case side2 => exact (Kd.R_reads' HO938.out).2.1); (case side3 => repeat (first | exact (Kd.R_reads' HO942.out).2.2 | (with_reducible refine Kd.C_alloc ?_ _) | (with_reducible refine Kd.C_drewN ?_ _) | (with_reducible refine Kd.C_drew ?_))); (case side4 => exact (Kd.R_reads' HO942.out).2.1); rintro e w' ⟨rfl, ⟨nd, rfl⟩⟩; (try first | exact ⟨rfl, _, World.drewN_drewN _ _ _⟩ | exact ⟨rfl, _, Eq.trans (World.drewN_drewN _ _ _) (congrArg (World.drewN _) (Nat.add_assoc _ _ _))⟩); have p944 : 0 ≤ (0 : Int) := (by omega); have q944 : 0 < (t935.length : Int) := of_decide_eq_true (by first | (with_reducible assumption) | assumption); obtain ⟨ad944, e944, hx944_0⟩ := Kd.at_int (Kd.R_reads' HO938.out).2.2 0 p944 q944; cases e944; have qi944 : (0 < t935.length) = True := eq_true (by omega); (try rw [show ((0 : Int)).toNat = 0 from rfl] at hx944_0); (try rw [Addr.add_zero'] at hx944_0); replace p944 := eq_true p944; replace q944 := eq_true q944; have p945 : 0 ≤ (3 : Int) := (by omega); have q945 : 3 < (t935.length : Int) := of_decide_eq_true (by first | (with_reducible assumption) | assumption); obtain ⟨ad945, e945, hx945_0⟩ := Kd.at_int (Kd.R_reads' HO938.out).2.2 3 p945 q945; obtain rfl : ad944 = ad945 := (by injection e945); (try simp only [show (3 : Int).toNat = 3 from rfl, Nat.reduceMul, Nat.reduceEqDiff, Go.Addr.add, ↓reduceIte] at hx945_0); have qi945 : (3 < t935.length) = True := eq_true (by omega); (try rw [show ((3 : Int)).toNat = 3 from rfl] at hx945_0); replace p945 := eq_true p945; replace q945 := eq_true q945; have p946 : 0 ≤ (1 : Int) := (by omega); have q946 : 1 < (t935.length : Int) := of_decide_eq_true (by first | (with_reducible assumption) | assumption); obtain ⟨ad946, e946, hx946_0⟩ := Kd.at_int (Kd.R_reads' HO938.out).2.2 1 p946 q946; obtain rfl : ad944 = ad946 := (by injection e946); (try simp only [show (1 : Int).toNat = 1 from rfl, Nat.reduceMul, Nat.reduceEqDiff, Go.Addr.add, ↓reduceIte] at hx946_0); have qi946 : (1 < t935.length) = True := eq_true (by omega); (try rw [show ((1 : Int)).toNat = 1 from rfl] at hx946_0); replace p946 := eq_true p946; replace q946 := eq_true q946; have p947 : 0 ≤ (2 : Int) := (by omega); have q947 : 2 < (t935.length : Int) := of_decide_eq_true (by first | (with_reducible assumption) | assumption); obtain ⟨ad947, e947, hx947_0⟩ := Kd.at_int (Kd.R_reads' HO938.out).2.2 2 p947 q947; obtain rfl : ad944 = ad947 := (by injection e947); (try simp only [show (2 : Int).toNat = 2 from rfl, Nat.reduceMul, Nat.reduceEqDiff, Go.Addr.add, ↓reduceIte] at hx947_0); have qi947 : (2 < t935.length) = True := eq_true (by omega); (try rw [show ((2 : Int)).toNat = 2 from rfl] at hx947_0); replace p947 := eq_true p947; replace q947 := eq_true q947))
                                      repeat (go_quiet (first | ((with_reducible refine gate_dst (N := 109) rfl ?_); (try (refine gate_guard (by rfl) ?_; dsimp only)); refine Kd.R_lit (Kd.int .i64) _ 3 ?hg (N := 109) ?hd (xs := ([t919, 1, 2130706432, t919] : List Int)) (inner := [.int .i64 t919, .int .i64 1, .int .i64 2130706432, .int .i64 t919]) (ok := fun _ => True) (okp := fun _ => True) ?hr ?hp (fun _ hk => hk) trivial (Below.refl _ _) (Nat.le_refl _) (by simp) ?_; (case hd => rfl); (case hg => rfl); (case hr => first | (go_simp; done) | (go_simp; rfl)); (case hp => exact (Reps.one (show Kd.M (Kd.int .i64) _ _ _ t919 [.int .i64 t919] from rfl) (Reps.one (show Kd.M (Kd.int .i64) _ _ _ 1 [.int .i64 1] from rfl) (Reps.one (show Kd.M (Kd.int .i64) _ _ _ 2130706432 [.int .i64 2130706432] from rfl) (Reps.one (show Kd.M (Kd.int .i64) _ _ _ t919 [.int .i64 t919] from rfl) (Reps.none _ _)))))); intro v933 w40 ho41 hb hg_ hnew_; clear hg_ hnew_; (first | rw [← Ny932.out] at ho41 | (simp only [Int.reduceToNat] at ho41; rw [← Ny932.out] at ho41)); have n0_ := Aside0.mk (Kd.R_lower ho41 (below_size (by repeat (first | (with_reducible first | exact HB.out | apply below_alloc | apply pw_below_drewN | apply below_drew1) | exact HB.out)))); have n1_ := Aside0.mk (below_step (by repeat (first | (with_reducible first | exact HB.out | apply below_alloc | apply pw_below_drewN | apply below_drew1) | exact HB.out)) hb); clear HB; have HO934 := n0_; have HB := n1_; clear n0_ n1_; clear hb ho41; obtain ⟨Ao42, co42, eo42⟩ := Kd.R_slice HO934.out; subst eo42) | (go_at_call 53; (with_reducible refine (impl_BatchInverse.calls kj20 _ _ y932 t935 t936 _ ?side1 ?side2 A29.out).mono ?_); (case side1 => repeat (first | exact (Kd.R_reads' HO934.out).2.2 | (with_reducible refine Kd.C_alloc ?_ _) | (with_reducible refine Kd.C_drewN ?_ _) | (with_reducible refine Kd.C_drew ?_))); (case side2 => exact (Kd.R_reads' HO934.out).2.1); rintro e w43 ⟨v937, rfl, ho0, hb⟩; have n0_ := Aside0.mk (Kd.R_elder' (by (with_reducible repeat (first | apply Kd.R_alloc | apply Kd.R_drewN | apply Kd.R_drew)); exact HO934.out) (Kd.R_base ho0) hb); have n1_ := Aside0.mk (Kd.R_lower (Kd.R_new' ho0 (Kd.R_lt (by (with_reducible repeat (first | apply Kd.R_alloc | apply Kd.R_drewN | apply Kd.R_drew)); exact HO934.out))) (below_size (by repeat (first | (with_reducible first | exact HB.out | apply below_alloc | apply pw_below_drewN | apply below_drew1) | exact HB.out)))); have n2_ := Aside0.mk (below_step (by repeat (first | (with_reducible first | exact HB.out | apply below_alloc | apply pw_below_drewN | apply below_drew1) | exact HB.out)) hb); clear HO934; clear HB; have HO934 := n0_; have HO938 := n1_; have HB := n2_; clear n0_ n1_ n2_; (try clear hb); (try clear hb2); (try clear hk); (try clear hi); (try clear ho0)) | (go_at_call 51; (with_reducible refine (spec_BatchInverse.calls kj20 _ _ y932 t939 t940 _ ?side1 ?side2 A30.out).mono ?_); (case side1 => repeat (first | exact (Kd.R_reads' HO934.out).2.2 | (with_reducible refine Kd.C_alloc ?_ _) | (with_reducible refine Kd.C_drewN ?_ _) | (with_reducible refine Kd.C_drew ?_))); (case side2 => exact (Kd.R_reads' HO934.out).2.1); rintro e w44 ⟨v941, rfl, ho0, hb⟩; have n0_ := Aside0.mk (Kd.R_elder' (by (with_reducible repeat (first | apply Kd.R_alloc | apply Kd.R_drewN | apply Kd.R_drew)); exact HO934.out) (Kd.R_base ho0) hb); have n1_ := Aside0.mk (Kd.R_elder' (by (with_reducible repeat (first | apply Kd.R_alloc | apply Kd.R_drewN | apply Kd.R_drew)); exact HO938.out) (Kd.R_base ho0) hb); have n2_ := Aside0.mk (Kd.R_lower (Kd.R_new' (Kd.R_new' ho0 (Kd.R_lt (by (with_reducible repeat (first | apply Kd.R_alloc | apply Kd.R_drewN | apply Kd.R_drew)); exact HO934.out))) (Kd.R_lt (by (with_reducible repeat (first | apply Kd.R_alloc | apply Kd.R_drewN | apply Kd.R_drew)); exact HO938.out))) (below_size (by repeat (first | (with_reducible first | exact HB.out | apply below_alloc | apply pw_below_drewN | apply below_drew1) | exact HB.out)))); have n3_ := Aside0.mk (below_step (by repeat (first | (with_reducible first | exact HB.out | apply below_alloc | apply pw_below_drewN | apply below_drew1) | exact HB.out)) hb); clear HO934; clear HO938; clear HB; have HO934 := n0_; have HO938 := n1_; have HO942 := n2_; have HB := n3_; clear n0_ n1_ n2_ n3_; (try clear hb); (try clear hb2); (try clear hk); (try clear hi); (try clear ho0); obtain ⟨Ao45, co45, eo45⟩ := Kd.R_slice HO938.out; subst eo45; obtain ⟨Ao46, co46, eo46⟩ := Kd.R_slice HO942.out; subst eo46) | (go_at_call 72; (with_reducible refine (laws_sameInts.calls kj20 _ _ t935 _ _ t939 true _ ?side1 ?side2 ?side3 ?side4 A32.out).mono ?_); (case side1 => repeat (first | exact (Kd.R_reads' HO938.out).2.2 | (with_reducible refine Kd.C_alloc ?_ _) | (with_reducible refine Kd.C_drewN ?_ _) | (with_reducible refine Kd.C_drew ?_))); (case side2 => exact (Kd.R_reads' HO938.out).2.1); (case side3 => repeat (first | exact (Kd.R_reads' HO942.out).2.2 | (with_reducible refine Kd.C_alloc ?_ _) | (with_reducible refine Kd.C_drewN ?_ _) | (with_reducible refine Kd.C_drew ?_))); (case side4 => exact (Kd.R_reads' HO942.out).2.1); rintro e w' ⟨rfl, ⟨nd, rfl⟩⟩; (try first | exact ⟨rfl, _, World.drewN_drewN _ _ _⟩ | exact ⟨rfl, _, Eq.trans (World.drewN_drewN _ _ _) (congrArg (World.drewN _) (Nat.add_assoc _ _ _))⟩); have p944 : 0 ≤ (0 : Int) := (by omega); have q944 : 0 < (t935.length : Int) := of_decide_eq_true (by first | (with_reducible assumption) | assumption); obtain ⟨ad944, e944, hx944_0⟩ := Kd.at_int (Kd.R_reads' HO938.out).2.2 0 p944 q944; cases e944; have qi944 : (0 < t935.length) = True := eq_true (by omega); (try rw [show ((0 : Int)).toNat = 0 from rfl] at hx944_0); (try rw [Addr.add_zero'] at hx944_0); replace p944 := eq_true p944; replace q944 := eq_true q944; have p945 : 0 ≤ (3 : Int) := (by omega); have q945 : 3 < (t935.length : Int) := of_decide_eq_true (by first | (with_reducible assumption) | assumption); obtain ⟨ad945, e945, hx945_0⟩ := Kd.at_int (Kd.R_reads' HO938.out).2.2 3 p945 q945; obtain rfl : ad944 = ad945 := (by injection e945); (try simp only [show (3 : Int).toNat = 3 from rfl, Nat.reduceMul, Nat.reduceEqDiff, Go.Addr.add, ↓reduceIte] at hx945_0); have qi945 : (3 < t935.length) = True := eq_true (by omega); (try rw [show ((3 : Int)).toNat = 3 from rfl] at hx945_0); replace p945 := eq_true p945; replace q945 := eq_true q945; have p946 : 0 ≤ (1 : Int) := (by omega); have q946 : 1 < (t935.length : Int) := of_decide_eq_true (by first | (with_reducible assumption) | assumption); obtain ⟨ad946, e946, hx946_0⟩ := Kd.at_int (Kd.R_reads' HO938.out).2.2 1 p946 q946; obtain rfl : ad944 = ad946 := (by injection e946); (try simp only [show (1 : Int).toNat = 1 from rfl, Nat.reduceMul, Nat.reduceEqDiff, Go.Addr.add, ↓reduceIte] at hx946_0); have qi946 : (1 < t935.length) = True := eq_true (by omega); (try rw [show ((1 : Int)).toNat = 1 from rfl] at hx946_0); replace p946 := eq_true p946; replace q946 := eq_true q946; have p947 : 0 ≤ (2 : Int) := (by omega); have q947 : 2 < (t935.length : Int) := of_decide_eq_true (by first | (with_reducible assumption) | assumption); obtain ⟨ad947, e947, hx947_0⟩ := Kd.at_int (Kd.R_reads' HO938.out).2.2 2 p947 q947; obtain rfl : ad944 = ad947 := (by injection e947); (try simp only [show (2 : Int).toNat = 2 from rfl, Nat.reduceMul, Nat.reduceEqDiff, Go.Addr.add, ↓reduceIte] at hx947_0); have qi947 : (2 < t935.length) = True := eq_true (by omega); (try rw [show ((2 : Int)).toNat = 2 from rfl] at hx947_0); replace p947 := eq_true p947; replace q947 := eq_true q947)); try go_wp2_with (first | ((with_reducible refine gate_dst (N := 109) rfl ?_); (try (refine gate_guard (by rfl) ?_; dsimp only)); refine Kd.R_lit (Kd.int .i64) _ 3 ?hg (N := 109) ?hd (xs := ([t919, 1, 2130706432, t919] : List Int)) (inner := [.int .i64 t919, .int .i64 1, .int .i64 2130706432, .int .i64 t919]) (ok := fun _ => True) (okp := fun _ => True) ?hr ?hp (fun _ hk => hk) trivial (Below.refl _ _) (Nat.le_refl _) (by simp) ?_; (case hd => rfl); (case hg => rfl); (case hr => first | (go_simp; done) | (go_simp; rfl)); (case hp => exact (Reps.one (show Kd.M (Kd.int .i64) _ _ _ t919 [.int .i64 t919] from rfl) (Reps.one (show Kd.M (Kd.int .i64) _ _ _ 1 [.int .i64 1] from rfl) (Reps.one (show Kd.M (Kd.int .i64) _ _ _ 2130706432 [.int .i64 2130706432] from rfl) (Reps.one (show Kd.M (Kd.int .i64) _ _ _ t919 [.int .i64 t919] from rfl) (Reps.none _ _)))))); intro v933 w40 ho41 hb hg_ hnew_; clear hg_ hnew_; (first | rw [← Ny932.out] at ho41 | (simp only [Int.reduceToNat] at ho41; rw [← Ny932.out] at ho41)); have n0_ := Aside0.mk (Kd.R_lower ho41 (below_size (by repeat (first | (with_reducible first | exact HB.out | apply below_alloc | apply pw_below_drewN | apply below_drew1) | exact HB.out)))); have n1_ := Aside0.mk (below_step (by repeat (first | (with_reducible first | exact HB.out | apply below_alloc | apply pw_below_drewN | apply below_drew1) | exact HB.out)) hb); clear HB; have HO934 := n0_; have HB := n1_; clear n0_ n1_; clear hb ho41; obtain ⟨Ao42, co42, eo42⟩ := Kd.R_slice HO934.out; subst eo42) | (go_at_call 53; (with_reducible refine (impl_BatchInverse.calls kj20 _ _ y932 t935 t936 _ ?side1 ?side2 A29.out).mono ?_); (case side1 => repeat (first | exact (Kd.R_reads' HO934.out).2.2 | (with_reducible refine Kd.C_alloc ?_ _) | (with_reducible refine Kd.C_drewN ?_ _) | (with_reducible refine Kd.C_drew ?_))); (case side2 => exact (Kd.R_reads' HO934.out).2.1); rintro e w43 ⟨v937, rfl, ho0, hb⟩; have n0_ := Aside0.mk (Kd.R_elder' (by (with_reducible repeat (first | apply Kd.R_alloc | apply Kd.R_drewN | apply Kd.R_drew)); exact HO934.out) (Kd.R_base ho0) hb); have n1_ := Aside0.mk (Kd.R_lower (Kd.R_new' ho0 (Kd.R_lt (by (with_reducible repeat (first | apply Kd.R_alloc | apply Kd.R_drewN | apply Kd.R_drew)); exact HO934.out))) (below_size (by repeat (first | (with_reducible first | exact HB.out | apply below_alloc | apply pw_below_drewN | apply below_drew1) | exact HB.out)))); have n2_ := Aside0.mk (below_step (by repeat (first | (with_reducible first | exact HB.out | apply below_alloc | apply pw_below_drewN | apply below_drew1) | exact HB.out)) hb); clear HO934; clear HB; have HO934 := n0_; have HO938 := n1_; have HB := n2_; clear n0_ n1_ n2_; (try clear hb); (try clear hb2); (try clear hk); (try clear hi); (try clear ho0)) | (go_at_call 51; (with_reducible refine (spec_BatchInverse.calls kj20 _ _ y932 t939 t940 _ ?side1 ?side2 A30.out).mono ?_); (case side1 => repeat (first | exact (Kd.R_reads' HO934.out).2.2 | (with_reducible refine Kd.C_alloc ?_ _) | (with_reducible refine Kd.C_drewN ?_ _) | (with_reducible refine Kd.C_drew ?_))); (case side2 => exact (Kd.R_reads' HO934.out).2.1); rintro e w44 ⟨v941, rfl, ho0, hb⟩; have n0_ := Aside0.mk (Kd.R_elder' (by (with_reducible repeat (first | apply Kd.R_alloc | apply Kd.R_drewN | apply Kd.R_drew)); exact HO934.out) (Kd.R_base ho0) hb); have n1_ := Aside0.mk (Kd.R_elder' (by (with_reducible repeat (first | apply Kd.R_alloc | apply Kd.R_drewN | apply Kd.R_drew)); exact HO938.out) (Kd.R_base ho0) hb); have n2_ := Aside0.mk (Kd.R_lower (Kd.R_new' (Kd.R_new' ho0 (Kd.R_lt (by (with_reducible repeat (first | apply Kd.R_alloc | apply Kd.R_drewN | apply Kd.R_drew)); exact HO934.out))) (Kd.R_lt (by (with_reducible repeat (first | apply Kd.R_alloc | apply Kd.R_drewN | apply Kd.R_drew)); exact HO938.out))) (below_size (by repeat (first | (with_reducible first | exact HB.out | apply below_alloc | apply pw_below_drewN | apply below_drew1) | exact HB.out)))); have n3_ := Aside0.mk (below_step (by repeat (first | (with_reducible first | exact HB.out | apply below_alloc | apply pw_below_drewN | apply below_drew1) | exact HB.out)) hb); clear HO934; clear HO938; clear HB; have HO934 := n0_; have HO938 := n1_; have HO942 := n2_; have HB := n3_; clear n0_ n1_ n2_ n3_; (try clear hb); (try clear hb2); (try clear hk); (try clear hi); (try clear ho0); obtain ⟨Ao45, co45, eo45⟩ := Kd.R_slice HO938.out; subst eo45; obtain ⟨Ao46, co46, eo46⟩ := Kd.R_slice HO942.out; subst eo46) | (go_at_call 72; (with_reducible refine (laws_sameInts.calls kj20 _ _ t935 _ _ t939 true _ ?side1 ?side2 ?side3 ?side4 A32.out).mono ?_); (case side1 => repeat (first | exact (Kd.R_reads' HO938.out).2.2 | (with_reducible refine Kd.C_alloc ?_ _) | (with_reducible refine Kd.C_drewN ?_ _) | (with_reducible refine Kd.C_drew ?_))); (case side2 => exact (Kd.R_reads' HO938.out).2.1); (case side3 => repeat (first | exact (Kd.R_reads' HO942.out).2.2 | (with_reducible refine Kd.C_alloc ?_ _) | (with_reducible refine Kd.C_drewN ?_ _) | (with_reducible refine Kd.C_drew ?_))); (case side4 => exact (Kd.R_reads' HO942.out).2.1); rintro e w' ⟨rfl, ⟨nd, rfl⟩⟩; (try first | exact ⟨rfl, _, World.drewN_drewN _ _ _⟩ | exact ⟨rfl, _, Eq.trans (World.drewN_drewN _ _ _) (congrArg (World.drewN _) (Nat.add_assoc _ _ _))⟩); have p944 : 0 ≤ (0 : Int) := (by omega); have q944 : 0 < (t935.length : Int) := of_decide_eq_true (by first | (with_reducible assumption) | assumption); obtain ⟨ad944, e944, hx944_0⟩ := Kd.at_int (Kd.R_reads' HO938.out).2.2 0 p944 q944; cases e944; have qi944 : (0 < t935.length) = True := eq_true (by omega); (try rw [show ((0 : Int)).toNat = 0 from rfl] at hx944_0); (try rw [Addr.add_zero'] at hx944_0); replace p944 := eq_true p944; replace q944 := eq_true q944; have p945 : 0 ≤ (3 : Int) := (by omega); have q945 : 3 < (t935.length : Int) := of_decide_eq_true (by first | (with_reducible assumption) | assumption); obtain ⟨ad945, e945, hx945_0⟩ := Kd.at_int (Kd.R_reads' HO938.out).2.2 3 p945 q945; obtain rfl : ad944 = ad945 := (by injection e945); (try simp only [show (3 : Int).toNat = 3 from rfl, Nat.reduceMul, Nat.reduceEqDiff, Go.Addr.add, ↓reduceIte] at hx945_0); have qi945 : (3 < t935.length) = True := eq_true (by omega); (try rw [show ((3 : Int)).toNat = 3 from rfl] at hx945_0); replace p945 := eq_true p945; replace q945 := eq_true q945; have p946 : 0 ≤ (1 : Int) := (by omega); have q946 : 1 < (t935.length : Int) := of_decide_eq_true (by first | (with_reducible assumption) | assumption); obtain ⟨ad946, e946, hx946_0⟩ := Kd.at_int (Kd.R_reads' HO938.out).2.2 1 p946 q946; obtain rfl : ad944 = ad946 := (by injection e946); (try simp only [show (1 : Int).toNat = 1 from rfl, Nat.reduceMul, Nat.reduceEqDiff, Go.Addr.add, ↓reduceIte] at hx946_0); have qi946 : (1 < t935.length) = True := eq_true (by omega); (try rw [show ((1 : Int)).toNat = 1 from rfl] at hx946_0); replace p946 := eq_true p946; replace q946 := eq_true q946; have p947 : 0 ≤ (2 : Int) := (by omega); have q947 : 2 < (t935.length : Int) := of_decide_eq_true (by first | (with_reducible assumption) | assumption); obtain ⟨ad947, e947, hx947_0⟩ := Kd.at_int (Kd.R_reads' HO938.out).2.2 2 p947 q947; obtain rfl : ad944 = ad947 := (by injection e947); (try simp only [show (2 : Int).toNat = 2 from rfl, Nat.reduceMul, Nat.reduceEqDiff, Go.Addr.add, ↓reduceIte] at hx947_0); have qi947 : (2 < t935.length) = True := eq_true (by omega); (try rw [show ((2 : Int)).toNat = 2 from rfl] at hx947_0); replace p947 := eq_true p947; replace q947 := eq_true q947)))
                                      go_ret
                                      exact ⟨by first | rfl | (simp [errW_none, errW_some] <;> rfl) | (simp [*, errW_none, errW_some] <;> rfl), by repeat (first | (with_reducible first | exact HB.out | apply below_alloc | apply pw_below_drewN | apply below_drew1) | exact HB.out)⟩
                                    · rw [if_neg c39] at H
                                      exact absurd H (by simp)
                                  · rw [if_neg c38] at H
                                    exact absurd H (by simp)
                                · rw [if_neg c37] at H
                                  exact absurd H (by simp)
                              · rw [if_neg c36] at H
                                exact absurd H (by simp)
                            · rw [if_neg c35] at H
                              exact absurd H (by simp)
                          · rw [if_neg c34] at H
                            exact absurd H (by simp)
                        · replace c33 := Bool.eq_false_iff.mpr c33
                          subst c33
                          have H1 : (none) = some r := by rw [if_neg (show ¬ (false = true) by decide)] at H; exact H
                          clear H
                          have H := H1
                          clear H1
                          exact absurd H (by simp)
                      · rw [if_neg c31] at H
                        exact absurd H (by simp)

/-- THE ONE PURE STATEMENT of laws_FnPowers: yours. -/
def laws_FnPowers.Pure : Prop := ∀ (l0 : List Int) (l1 : List Int), l0.length ≤ maxLen → l0.length * 1 ≤ 140737488351232 → (∀ x ∈ l0, (Lit.int .u8 x).wf = true) → l1.length ≤ maxLen → l1.length * 1 ≤ 140737488351232 → (∀ x ∈ l1, (Lit.int .u8 x).wf = true) → ∃ k, laws_FnPowers.f k l0 l1 = some true
theorem laws_FnPowers.walk (P : laws_FnPowers.Pure) (a0 : Option Addr) (len0 cap0 : Nat) (z0 : List Int) (a1 : Option Addr) (len1 cap1 : Nat) (z1 : List Int) (w : World) (w0 : (a0 = none ∧ len0 = 0 ∧ cap0 = 0 ∧ z0 = []) ∨ ∃ x, a0 = some x ∧ len0 ≤ cap0 ∧ cap0 ≤ maxLen ∧ z0.length = cap0 ∧ (∀ i, i < z0.length → w.cell? (x.add i) = some (.int .u8 (z0.getD i 0))) ∧ ∀ n ∈ z0, (Lit.int .u8 n).wf = true) (y0 : len0 * 1 ≤ 140737488351232) (w1 : (a1 = none ∧ len1 = 0 ∧ cap1 = 0 ∧ z1 = []) ∨ ∃ x, a1 = some x ∧ len1 ≤ cap1 ∧ cap1 ≤ maxLen ∧ z1.length = cap1 ∧ (∀ i, i < z1.length → w.cell? (x.add i) = some (.int .u8 (z1.getD i 0))) ∧ ∀ n ∈ z1, (Lit.int .u8 n).wf = true) (y1 : len1 * 1 ≤ 140737488351232) :
    Calls Try.prog 18 #[.slice a0 len0 cap0, .slice a1 len1 cap1] w fun e w' => e = .returned (.bool true) ∧ Below w.heap.size w w' := by
  obtain ⟨l0, rfl, hr0, hm0, hw0, hc0⟩ := ReadsInt.ofRowC w0
  obtain ⟨l1, rfl, hr1, hm1, hw1, hc1⟩ := ReadsInt.ofRowC w1
  obtain ⟨k, h⟩ := P l0 l1 hm0 y0 hw0 hm1 y1 hw1
  refine (laws_FnPowers.calls k _ _ l0 _ _ l1 true w (Kd.C_of_reads (d := (0 : Int)) (h1 := fun _ => rfl) hr0) hc0 (Kd.C_of_reads (d := (0 : Int)) (h1 := fun _ => rfl) hr1) hc1 h).mono ?_
  rintro e w' ⟨rfl, hd⟩
  exact ⟨rfl, hd⟩

/-! ### spec_l01Add: function 115 -/
def spec_l01Add.f (a0 : Int) (a1 : Int) : Option (Int) := some (Int.tmod (wrap64 (a0 + a1)) 2130706433)
set_option maxHeartbeats 8000000 in
set_option maxRecDepth 100000 in
theorem spec_l01Add.calls (a0 : Int) (a1 : Int) (r : Int) (w : World) (h : spec_l01Add.f a0 a1 = some r) :
    Calls Try.prog 115 #[.int .i64 a0, .int .i64 a1] w fun e w' => e = .returned (.int .i64 r) ∧ Drawn0 w w' := by
  have H : (some (Int.tmod (wrap64 (a0 + a1)) 2130706433)) = some r := h
  clear h
  obtain rfl := Option.some.inj H
  go_enter Try.func115, Try.ntmps115
  go_wp2
  go_ret
  exact ⟨by first | rfl | (simp; done) | (simp [*]; done), by repeat (first | exact Drawn0.refl _ | apply Drawn0.step)⟩

/-! ### spec_l01Sub: function 116 -/
def spec_l01Sub.f (a0 : Int) (a1 : Int) : Option (Int) := some (Int.tmod (wrap64 ((wrap64 (a0 + 2130706433)) - a1)) 2130706433)
set_option maxHeartbeats 8000000 in
set_option maxRecDepth 100000 in
theorem spec_l01Sub.calls (a0 : Int) (a1 : Int) (r : Int) (w : World) (h : spec_l01Sub.f a0 a1 = some r) :
    Calls Try.prog 116 #[.int .i64 a0, .int .i64 a1] w fun e w' => e = .returned (.int .i64 r) ∧ Drawn0 w w' := by
  have H : (some (Int.tmod (wrap64 ((wrap64 (a0 + 2130706433)) - a1)) 2130706433)) = some r := h
  clear h
  obtain rfl := Option.some.inj H
  go_enter Try.func116, Try.ntmps116
  go_wp2
  go_ret
  exact ⟨by first | rfl | (simp; done) | (simp [*]; done), by repeat (first | exact Drawn0.refl _ | apply Drawn0.step)⟩

end Go.Proofs.Ytnggbahcmhdjnaa.Print
