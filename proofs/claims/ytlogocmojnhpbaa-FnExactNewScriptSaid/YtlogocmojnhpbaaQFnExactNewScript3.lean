-- Packed by a program of this session (slim.py) out of printed texts; not trusted, Lean checks it.
import Derived.Test.YtlogocmojnhpbaaPrint0
import Derived.Test.YtlogocmojnhpbaaQFnExactNewScript0
import Derived.Test.YtlogocmojnhpbaaQFnExactNewScript1
import Derived.Test.YtlogocmojnhpbaaQFnExactNewScript2
namespace Go.Proofs.Ytlogocmojnhpbaa.Print
open Go.RowKit Go.Proofs.YtlogocmojnhpbaaW.PrintWords Go.Proofs.YtlogocmojnhpbaaW.PrintLast Go.Proofs.YtlogocmojnhpbaaW.PrintMore
attribute [local go_sem] max2_int min2_int max_two min_two max_three min_three max_four min_four   -- for this text's walks alone
set_option linter.unusedVariables false
set_option linter.unusedSimpArgs false

/-! ### laws_FnExactNewScript: function 15 -/
mutual
def laws_FnExactNewScript.j0 : Nat → ByteArray → List (S125) → Int → List (S79) → Int → Bool → List (S79) → Int → ByteArray → Int → List (S79) → Int → ByteArray → Int → Option (Bool)
  | 0, _, _, _, _, _, _, _, _, _, _, _, _, _, _ => none
  | k + 1, x0, x1, x7, x8, x10, x47, x264000, x264001, x264002, x264003, x275000, x275001, x275002, x275003 => if x47 = true then (none) else ((laws_toExtS.f k x1).bind fun t276 => ((laws_eqExtS.f k x8 t276).bind fun t279 => (if t279 = true then ((laws_markExtS.f k x8 1).bind fun bt280 => (if bt280.1 < 0 then (laws_FnExactNewScript.j1 k x0 x1 x7 true x264000 x264001 x264002 x264003 x275000 x275001 x275002 x275003) else ((laws_eqSource.f k x275000 x275001 x275002 x275003 x264000 x264001 x264002 x264003).bind fun t282 => (if t282 = true then (laws_FnExactNewScript.j1 k x0 x1 x7 (x10 != x7) x264000 x264001 x264002 x264003 x275000 x275001 x275002 x275003) else (laws_FnExactNewScript.j1 k x0 x1 x7 true x264000 x264001 x264002 x264003 x275000 x275001 x275002 x275003))))) else (none))))
def laws_FnExactNewScript.j1 : Nat → ByteArray → List (S125) → Int → Bool → List (S79) → Int → ByteArray → Int → List (S79) → Int → ByteArray → Int → Option (Bool)
  | 0, _, _, _, _, _, _, _, _, _, _, _, _ => none
  | k + 1, x0, x1, x7, x68, x264000, x264001, x264002, x264003, x275000, x275001, x275002, x275003 => if x68 = true then (none) else ((laws_markSource.f k x275000 x275001 x275002 x275003 1).bind fun bt283 => ((laws_heldSource.f k bt283.2 x275001 x275002 x275003 1).bind fun t285 => (if t285 < 0 then (none) else (if t285 = bt283.1 then ((laws_toExtS.f k x1).bind fun t286 => ((impl_NewScript.f k x0 t286).bind fun bt289 => ((laws_eqSource.f k bt289.1 bt289.2.1 bt289.2.2.1 bt289.2.2.2.1 x264000 x264001 x264002 x264003).bind fun t297 => (if t297 = true then (laws_FnExactNewScript.j2 k bt283.1 (bt289.2.2.2.2 != x7) bt283.2 x275001 x275002 x275003) else (laws_FnExactNewScript.j2 k bt283.1 true bt283.2 x275001 x275002 x275003))))) else (none)))))
def laws_FnExactNewScript.j2 : Nat → Int → Bool → List (S79) → Int → ByteArray → Int → Option (Bool)
  | 0, _, _, _, _, _, _ => none
  | k + 1, x12, x95, x275000, x275001, x275002, x275003 => if x95 = true then (none) else ((laws_heldSource.f k x275000 x275001 x275002 x275003 1).bind fun t298 => (if t298 < 0 then (none) else (if t298 = x12 then (some true) else (none))))
end
def laws_FnExactNewScript.f (k : Nat) (a0 : ByteArray) (l1 : List (S125)) : Option (Bool) := if (a0.size : Int) > 1048576 then (some true) else ((laws_szExtS.f l1 1048576).bind fun t252 => (if t252 < 0 then (some true) else ((laws_toExtS.f k l1).bind fun t253 => ((spec_NewScript.f k a0 t253).bind fun bt256 => ((laws_toExtS.f k l1).bind fun t264 => ((impl_NewScript.f k a0 t264).bind fun bt267 => ((laws_eqSource.f k bt267.1 bt267.2.1 bt267.2.2.1 bt267.2.2.2.1 bt256.1 bt256.2.1 bt256.2.2.1 bt256.2.2.2.1).bind fun t275 => (if t275 = true then (laws_FnExactNewScript.j0 k a0 l1 bt256.2.2.2.2 t264 bt267.2.2.2.2 (bt267.2.2.2.2 != bt256.2.2.2.2) bt256.1 bt256.2.1 bt256.2.2.1 bt256.2.2.2.1 bt267.1 bt267.2.1 bt267.2.2.1 bt267.2.2.2.1) else (laws_FnExactNewScript.j0 k a0 l1 bt256.2.2.2.2 t264 bt267.2.2.2.2 true bt256.1 bt256.2.1 bt256.2.2.1 bt256.2.2.2.1 bt267.1 bt267.2.1 bt267.2.2.1 bt267.2.2.2.1)))))))))
theorem laws_FnExactNewScript.mono_l : ∀ k, (∀ y0 y1 y2 y3 y4 y5 y6 y7 y8 y9 y10 y11 y12 y13, LeO (laws_FnExactNewScript.j0 k y0 y1 y2 y3 y4 y5 y6 y7 y8 y9 y10 y11 y12 y13) (laws_FnExactNewScript.j0 (k + 1) y0 y1 y2 y3 y4 y5 y6 y7 y8 y9 y10 y11 y12 y13)) ∧ (∀ y0 y1 y2 y3 y4 y5 y6 y7 y8 y9 y10 y11, LeO (laws_FnExactNewScript.j1 k y0 y1 y2 y3 y4 y5 y6 y7 y8 y9 y10 y11) (laws_FnExactNewScript.j1 (k + 1) y0 y1 y2 y3 y4 y5 y6 y7 y8 y9 y10 y11)) ∧ (∀ y0 y1 y2 y3 y4 y5, LeO (laws_FnExactNewScript.j2 k y0 y1 y2 y3 y4 y5) (laws_FnExactNewScript.j2 (k + 1) y0 y1 y2 y3 y4 y5))
  | 0 => ⟨fun _ _ _ _ _ _ _ _ _ _ _ _ _ _ r h => by simp [laws_FnExactNewScript.j0] at h, fun _ _ _ _ _ _ _ _ _ _ _ _ r h => by simp [laws_FnExactNewScript.j1] at h, fun _ _ _ _ _ _ r h => by simp [laws_FnExactNewScript.j2] at h⟩
  | k + 1 => by
    obtain ⟨ih0, ih1, ih2⟩ := laws_FnExactNewScript.mono_l k
    refine ⟨?_, ?_, ?_⟩
    · intro y0 y1 y2 y3 y4 y5 y6 y7 y8 y9 y10 y11 y12 y13
      unfold laws_FnExactNewScript.j0
      repeat' first
      | (with_reducible exact ih0 _ _ _ _ _ _ _ _ _ _ _ _ _ _)
      | (with_reducible exact ih1 _ _ _ _ _ _ _ _ _ _ _ _)
      | (with_reducible exact ih2 _ _ _ _ _ _)
      | (with_reducible exact impl_NewScript.mono _ _ _)
      | (with_reducible exact laws_eqExtS.mono _ _ _)
      | (with_reducible exact laws_eqSource.mono _ _ _ _ _ _ _ _ _)
      | (with_reducible exact laws_heldSource.mono _ _ _ _ _ _)
      | (with_reducible exact laws_markExtS.mono _ _ _)
      | (with_reducible exact laws_markSource.mono _ _ _ _ _ _)
      | (with_reducible exact laws_toExtS.mono _ _)
      | (with_reducible exact spec_NewScript.mono _ _ _)
      | (with_reducible exact LeO.refl _)
      | (with_reducible exact LeO.none _)
      | (with_reducible refine LeO.ite ?_ ?_)
      | (with_reducible refine LeO.bind ?_ (fun _ => ?_))
      | exact ih0 _ _ _ _ _ _ _ _ _ _ _ _ _ _
      | exact ih1 _ _ _ _ _ _ _ _ _ _ _ _
      | exact ih2 _ _ _ _ _ _
      | exact impl_NewScript.mono _ _ _
      | exact laws_eqExtS.mono _ _ _
      | exact laws_eqSource.mono _ _ _ _ _ _ _ _ _
      | exact laws_heldSource.mono _ _ _ _ _ _
      | exact laws_markExtS.mono _ _ _
      | exact laws_markSource.mono _ _ _ _ _ _
      | exact laws_toExtS.mono _ _
      | exact spec_NewScript.mono _ _ _
      | exact LeO.none _
      | refine LeO.ite ?_ ?_
      | refine LeO.bind ?_ (fun _ => ?_)
    · intro y0 y1 y2 y3 y4 y5 y6 y7 y8 y9 y10 y11
      unfold laws_FnExactNewScript.j1
      repeat' first
      | (with_reducible exact ih0 _ _ _ _ _ _ _ _ _ _ _ _ _ _)
      | (with_reducible exact ih1 _ _ _ _ _ _ _ _ _ _ _ _)
      | (with_reducible exact ih2 _ _ _ _ _ _)
      | (with_reducible exact impl_NewScript.mono _ _ _)
      | (with_reducible exact laws_eqExtS.mono _ _ _)
      | (with_reducible exact laws_eqSource.mono _ _ _ _ _ _ _ _ _)
      | (with_reducible exact laws_heldSource.mono _ _ _ _ _ _)
      | (with_reducible exact laws_markExtS.mono _ _ _)
      | (with_reducible exact laws_markSource.mono _ _ _ _ _ _)
      | (with_reducible exact laws_toExtS.mono _ _)
      | (with_reducible exact spec_NewScript.mono _ _ _)
      | (with_reducible exact LeO.refl _)
      | (with_reducible exact LeO.none _)
      | (with_reducible refine LeO.ite ?_ ?_)
      | (with_reducible refine LeO.bind ?_ (fun _ => ?_))
      | exact ih0 _ _ _ _ _ _ _ _ _ _ _ _ _ _
      | exact ih1 _ _ _ _ _ _ _ _ _ _ _ _
      | exact ih2 _ _ _ _ _ _
      | exact impl_NewScript.mono _ _ _
      | exact laws_eqExtS.mono _ _ _
      | exact laws_eqSource.mono _ _ _ _ _ _ _ _ _
      | exact laws_heldSource.mono _ _ _ _ _ _
      | exact laws_markExtS.mono _ _ _
      | exact laws_markSource.mono _ _ _ _ _ _
      | exact laws_toExtS.mono _ _
      | exact spec_NewScript.mono _ _ _
      | exact LeO.none _
      | refine LeO.ite ?_ ?_
      | refine LeO.bind ?_ (fun _ => ?_)
    · intro y0 y1 y2 y3 y4 y5
      unfold laws_FnExactNewScript.j2
      repeat' first
      | (with_reducible exact ih0 _ _ _ _ _ _ _ _ _ _ _ _ _ _)
      | (with_reducible exact ih1 _ _ _ _ _ _ _ _ _ _ _ _)
      | (with_reducible exact ih2 _ _ _ _ _ _)
      | (with_reducible exact impl_NewScript.mono _ _ _)
      | (with_reducible exact laws_eqExtS.mono _ _ _)
      | (with_reducible exact laws_eqSource.mono _ _ _ _ _ _ _ _ _)
      | (with_reducible exact laws_heldSource.mono _ _ _ _ _ _)
      | (with_reducible exact laws_markExtS.mono _ _ _)
      | (with_reducible exact laws_markSource.mono _ _ _ _ _ _)
      | (with_reducible exact laws_toExtS.mono _ _)
      | (with_reducible exact spec_NewScript.mono _ _ _)
      | (with_reducible exact LeO.refl _)
      | (with_reducible exact LeO.none _)
      | (with_reducible refine LeO.ite ?_ ?_)
      | (with_reducible refine LeO.bind ?_ (fun _ => ?_))
      | exact ih0 _ _ _ _ _ _ _ _ _ _ _ _ _ _
      | exact ih1 _ _ _ _ _ _ _ _ _ _ _ _
      | exact ih2 _ _ _ _ _ _
      | exact impl_NewScript.mono _ _ _
      | exact laws_eqExtS.mono _ _ _
      | exact laws_eqSource.mono _ _ _ _ _ _ _ _ _
      | exact laws_heldSource.mono _ _ _ _ _ _
      | exact laws_markExtS.mono _ _ _
      | exact laws_markSource.mono _ _ _ _ _ _
      | exact laws_toExtS.mono _ _
      | exact spec_NewScript.mono _ _ _
      | exact LeO.none _
      | refine LeO.ite ?_ ?_
      | refine LeO.bind ?_ (fun _ => ?_)
theorem laws_FnExactNewScript.mono : ∀ a0 a1 k, LeO (laws_FnExactNewScript.f k a0 a1) (laws_FnExactNewScript.f (k + 1) a0 a1) := by
  intro a0 a1 k
  obtain ⟨ih0, ih1, ih2⟩ := laws_FnExactNewScript.mono_l k
  unfold laws_FnExactNewScript.f
  repeat' first
      | (with_reducible exact ih0 _ _ _ _ _ _ _ _ _ _ _ _ _ _)
      | (with_reducible exact ih1 _ _ _ _ _ _ _ _ _ _ _ _)
      | (with_reducible exact ih2 _ _ _ _ _ _)
      | (with_reducible exact impl_NewScript.mono _ _ _)
      | (with_reducible exact laws_eqExtS.mono _ _ _)
      | (with_reducible exact laws_eqSource.mono _ _ _ _ _ _ _ _ _)
      | (with_reducible exact laws_heldSource.mono _ _ _ _ _ _)
      | (with_reducible exact laws_markExtS.mono _ _ _)
      | (with_reducible exact laws_markSource.mono _ _ _ _ _ _)
      | (with_reducible exact laws_toExtS.mono _ _)
      | (with_reducible exact spec_NewScript.mono _ _ _)
      | (with_reducible exact LeO.refl _)
      | (with_reducible exact LeO.none _)
      | (with_reducible refine LeO.ite ?_ ?_)
      | (with_reducible refine LeO.bind ?_ (fun _ => ?_))
      | exact ih0 _ _ _ _ _ _ _ _ _ _ _ _ _ _
      | exact ih1 _ _ _ _ _ _ _ _ _ _ _ _
      | exact ih2 _ _ _ _ _ _
      | exact impl_NewScript.mono _ _ _
      | exact laws_eqExtS.mono _ _ _
      | exact laws_eqSource.mono _ _ _ _ _ _ _ _ _
      | exact laws_heldSource.mono _ _ _ _ _ _
      | exact laws_markExtS.mono _ _ _
      | exact laws_markSource.mono _ _ _ _ _ _
      | exact laws_toExtS.mono _ _
      | exact spec_NewScript.mono _ _ _
      | exact LeO.none _
      | refine LeO.ite ?_ ?_
      | refine LeO.bind ?_ (fun _ => ?_)
set_option maxHeartbeats 8000000 in
set_option maxRecDepth 100000 in
theorem laws_FnExactNewScript.calls (k : Nat) (a0 : ByteArray) (A1 : Option Addr) (c1 : Nat) (l1 : List (S125)) (r : Bool) (w : World) (hr1 : Kd.C k125 w A1 l1.length l1) (hc1 : l1.length ≤ c1) (h : laws_FnExactNewScript.f k a0 l1 = some r) :
    Calls Try.prog 15 #[.string a0, .slice A1 l1.length c1] w fun e w' => e = .returned (.bool r) ∧ Below w.heap.size w w' := by
  have hu36 := Try.underlying36
  have HR1 := Aside0.mk hr1
  have HC1 := Aside0.mk hc1
  clear hr1 hc1
  have HB := Aside0.mk (Below.refl w.heap.size w)
  have H : (if (a0.size : Int) > 1048576 then (some true) else ((laws_szExtS.f l1 1048576).bind fun t252 => (if t252 < 0 then (some true) else ((laws_toExtS.f k l1).bind fun t253 => ((spec_NewScript.f k a0 t253).bind fun bt256 => ((laws_toExtS.f k l1).bind fun t264 => ((impl_NewScript.f k a0 t264).bind fun bt267 => ((laws_eqSource.f k bt267.1 bt267.2.1 bt267.2.2.1 bt267.2.2.2.1 bt256.1 bt256.2.1 bt256.2.2.1 bt256.2.2.2.1).bind fun t275 => (if t275 = true then (laws_FnExactNewScript.j0 k a0 l1 bt256.2.2.2.2 t264 bt267.2.2.2.2 (bt267.2.2.2.2 != bt256.2.2.2.2) bt256.1 bt256.2.1 bt256.2.2.1 bt256.2.2.2.1 bt267.1 bt267.2.1 bt267.2.2.1 bt267.2.2.2.1) else (laws_FnExactNewScript.j0 k a0 l1 bt256.2.2.2.2 t264 bt267.2.2.2.2 true bt256.1 bt256.2.1 bt256.2.2.1 bt256.2.2.2.1 bt267.1 bt267.2.1 bt267.2.2.1 bt267.2.2.2.1)))))))))) = some r := h
  clear h
  by_cases c3 : (a0.size : Int) > 1048576
  · rw [if_pos c3] at H
    have c3b0 : decide (1048576 < (a0.size : Int)) = true := decide_eq_true c3
    have c3b1 : decide (1048576 < a0.size) = true := decide_eq_true (by omega)
    clear c3
    obtain rfl := Option.some.inj H
    go_enter Try.func15, Try.ntmps15
    go_wp2
    go_ret
    exact ⟨by first | rfl | (simp [errW_none, errW_some] <;> rfl) | (simp [*, errW_none, errW_some] <;> rfl), by repeat (first | (with_reducible first | exact HB.out | apply below_alloc | apply pw_below_drewN | apply below_drew1) | exact HB.out)⟩
  · rw [if_neg c3] at H
    have c3b0 : decide (1048576 < (a0.size : Int)) = false := decide_eq_false c3
    have c3b1 : decide (1048576 < a0.size) = false := decide_eq_false (by omega)
    clear c3
    replace H := Option.bind_eq_some_iff.mp H
    obtain ⟨t252, A40, H⟩ := H
    replace H : (if t252 < 0 then (some true) else ((laws_toExtS.f k l1).bind fun t253 => ((spec_NewScript.f k a0 t253).bind fun bt256 => ((laws_toExtS.f k l1).bind fun t264 => ((impl_NewScript.f k a0 t264).bind fun bt267 => ((laws_eqSource.f k bt267.1 bt267.2.1 bt267.2.2.1 bt267.2.2.2.1 bt256.1 bt256.2.1 bt256.2.2.1 bt256.2.2.2.1).bind fun t275 => (if t275 = true then (laws_FnExactNewScript.j0 k a0 l1 bt256.2.2.2.2 t264 bt267.2.2.2.2 (bt267.2.2.2.2 != bt256.2.2.2.2) bt256.1 bt256.2.1 bt256.2.2.1 bt256.2.2.2.1 bt267.1 bt267.2.1 bt267.2.2.1 bt267.2.2.2.1) else (laws_FnExactNewScript.j0 k a0 l1 bt256.2.2.2.2 t264 bt267.2.2.2.2 true bt256.1 bt256.2.1 bt256.2.2.1 bt256.2.2.2.1 bt267.1 bt267.2.1 bt267.2.2.1 bt267.2.2.2.1)))))))) = some r := H
    have A4 := Aside0.mk A40
    clear A40
    by_cases c5 : t252 < 0
    · rw [if_pos c5] at H
      have c5b0 : decide (t252 < 0) = true := decide_eq_true c5
      clear c5
      obtain rfl := Option.some.inj H
      go_enter Try.func15, Try.ntmps15
      go_wp2_with (first | ((with_reducible refine gate_callee (f := 59) rfl ?_); refine goesL_ (some 21) rfl rfl Try.func59 (by kernel_rfl) rfl #[.slice A1 l1.length c1, .int .i64 1048576] rfl (by (try simp only [List.map_toArray, List.map_cons, List.map_nil]); first | done | rfl | (simp only [List.length_drop, List.length_take]; rfl)) ?_; (with_reducible refine (laws_szExtS.calls _ _ l1 1048576 t252 _ ?side1 ?side2 A4.out).mono ?_); (case side1 => repeat (first | exact HR1.out | (with_reducible refine Kd.C_alloc ?_ _) | (with_reducible refine Kd.C_drewN ?_ _) | (with_reducible refine Kd.C_drew ?_))); (case side2 => exact HC1.out); rintro e w' ⟨rfl, ⟨nd, rfl⟩⟩; refine ⟨_, rfl, ?_⟩))
      go_ret
      exact ⟨by first | rfl | (simp [errW_none, errW_some] <;> rfl) | (simp [*, errW_none, errW_some] <;> rfl), by repeat (first | (with_reducible first | exact HB.out | apply below_alloc | apply pw_below_drewN | apply below_drew1) | exact HB.out)⟩
    · rw [if_neg c5] at H
      have c5b0 : decide (t252 < 0) = false := decide_eq_false c5
      clear c5
      replace H := Option.bind_eq_some_iff.mp H
      obtain ⟨t253, A60, H⟩ := H
      replace H : ((spec_NewScript.f k a0 t253).bind fun bt256 => ((laws_toExtS.f k l1).bind fun t264 => ((impl_NewScript.f k a0 t264).bind fun bt267 => ((laws_eqSource.f k bt267.1 bt267.2.1 bt267.2.2.1 bt267.2.2.2.1 bt256.1 bt256.2.1 bt256.2.2.1 bt256.2.2.2.1).bind fun t275 => (if t275 = true then (laws_FnExactNewScript.j0 k a0 l1 bt256.2.2.2.2 t264 bt267.2.2.2.2 (bt267.2.2.2.2 != bt256.2.2.2.2) bt256.1 bt256.2.1 bt256.2.2.1 bt256.2.2.2.1 bt267.1 bt267.2.1 bt267.2.2.1 bt267.2.2.2.1) else (laws_FnExactNewScript.j0 k a0 l1 bt256.2.2.2.2 t264 bt267.2.2.2.2 true bt256.1 bt256.2.1 bt256.2.2.1 bt256.2.2.2.1 bt267.1 bt267.2.1 bt267.2.2.1 bt267.2.2.2.1)))))) = some r := H
      have A6 := Aside0.mk A60
      clear A60
      replace H := Option.bind_eq_some_iff.mp H
      obtain ⟨⟨t256, t259, t260, t261, t262⟩, A70, H⟩ := H
      replace H : ((laws_toExtS.f k l1).bind fun t264 => ((impl_NewScript.f k a0 t264).bind fun bt267 => ((laws_eqSource.f k bt267.1 bt267.2.1 bt267.2.2.1 bt267.2.2.2.1 t256 t259 t260 t261).bind fun t275 => (if t275 = true then (laws_FnExactNewScript.j0 k a0 l1 t262 t264 bt267.2.2.2.2 (bt267.2.2.2.2 != t262) t256 t259 t260 t261 bt267.1 bt267.2.1 bt267.2.2.1 bt267.2.2.2.1) else (laws_FnExactNewScript.j0 k a0 l1 t262 t264 bt267.2.2.2.2 true t256 t259 t260 t261 bt267.1 bt267.2.1 bt267.2.2.1 bt267.2.2.2.1))))) = some r := H
      have A7 := Aside0.mk A70
      clear A70
      replace H := Option.bind_eq_some_iff.mp H
      obtain ⟨t264, A80, H⟩ := H
      replace H : ((impl_NewScript.f k a0 t264).bind fun bt267 => ((laws_eqSource.f k bt267.1 bt267.2.1 bt267.2.2.1 bt267.2.2.2.1 t256 t259 t260 t261).bind fun t275 => (if t275 = true then (laws_FnExactNewScript.j0 k a0 l1 t262 t264 bt267.2.2.2.2 (bt267.2.2.2.2 != t262) t256 t259 t260 t261 bt267.1 bt267.2.1 bt267.2.2.1 bt267.2.2.2.1) else (laws_FnExactNewScript.j0 k a0 l1 t262 t264 bt267.2.2.2.2 true t256 t259 t260 t261 bt267.1 bt267.2.1 bt267.2.2.1 bt267.2.2.2.1)))) = some r := H
      have A8 := Aside0.mk A80
      clear A80
      replace H := Option.bind_eq_some_iff.mp H
      obtain ⟨⟨t267, t270, t271, t272, t273⟩, A90, H⟩ := H
      replace H : ((laws_eqSource.f k t267 t270 t271 t272 t256 t259 t260 t261).bind fun t275 => (if t275 = true then (laws_FnExactNewScript.j0 k a0 l1 t262 t264 t273 (t273 != t262) t256 t259 t260 t261 t267 t270 t271 t272) else (laws_FnExactNewScript.j0 k a0 l1 t262 t264 t273 true t256 t259 t260 t261 t267 t270 t271 t272))) = some r := H
      have A9 := Aside0.mk A90
      clear A90
      have HC10 := Aside0.mk H
      clear H
      go_enter Try.func15, Try.ntmps15
      go_upto_region 10 with (first | ((with_reducible refine gate_callee (f := 59) rfl ?_); refine goesL_ (some 21) rfl rfl Try.func59 (by kernel_rfl) rfl #[.slice A1 l1.length c1, .int .i64 1048576] rfl (by (try simp only [List.map_toArray, List.map_cons, List.map_nil]); first | done | rfl | (simp only [List.length_drop, List.length_take]; rfl)) ?_; (with_reducible refine (laws_szExtS.calls _ _ l1 1048576 t252 _ ?side1 ?side2 A4.out).mono ?_); (case side1 => repeat (first | exact HR1.out | (with_reducible refine Kd.C_alloc ?_ _) | (with_reducible refine Kd.C_drewN ?_ _) | (with_reducible refine Kd.C_drew ?_))); (case side2 => exact HC1.out); rintro e w' ⟨rfl, ⟨nd, rfl⟩⟩; refine ⟨_, rfl, ?_⟩) | ((with_reducible refine gate_callee (f := 61) rfl ?_); refine goesL_ (some 27) rfl rfl Try.func61 (by kernel_rfl) rfl #[.slice A1 l1.length c1] rfl (by (try simp only [List.map_toArray, List.map_cons, List.map_nil]); first | done | rfl | (simp only [List.length_drop, List.length_take]; rfl)) ?_; (with_reducible refine (laws_toExtS.calls k _ _ l1 t253 _ ?side1 ?side2 A6.out).mono ?_); (case side1 => repeat (first | exact HR1.out | (with_reducible refine Kd.C_alloc ?_ _) | (with_reducible refine Kd.C_drewN ?_ _) | (with_reducible refine Kd.C_drew ?_))); (case side2 => exact HC1.out); rintro e w11 ⟨v254, rfl, ho0, hb⟩; refine ⟨_, rfl, ?_⟩; have n0_ := Aside0.mk (Kd.R_lower ho0 (below_size (by repeat (first | (with_reducible first | exact HB.out | apply below_alloc | apply pw_below_drewN | apply below_drew1) | exact HB.out)))); have n1_ := Aside0.mk (below_step (by repeat (first | (with_reducible first | exact HB.out | apply below_alloc | apply pw_below_drewN | apply below_drew1) | exact HB.out)) hb); clear HB; have HO255 := n0_; have HB := n1_; clear n0_ n1_; (try clear hb); (try clear hb2); (try clear hk); (try clear hi); (try clear ho0); obtain ⟨Ao12, co12, eo12⟩ := Kd.R_slice HO255.out; subst eo12) | ((with_reducible refine gate_callee (f := 60) rfl ?_); refine goesL_ (some 28) rfl rfl Try.func60 (by kernel_rfl) rfl #[.string a0, .slice Ao12 t253.length co12] rfl (by (try simp only [List.map_toArray, List.map_cons, List.map_nil]); first | done | rfl | (simp only [List.length_drop, List.length_take]; rfl)) ?_; (with_reducible refine (spec_NewScript.calls k a0 _ _ t253 t256 t259 t260 t261 t262 _ ?side1 ?side2 A7.out).mono ?_); (case side1 => repeat (first | exact (Kd.R_reads' HO255.out).2.2 | (with_reducible refine Kd.C_alloc ?_ _) | (with_reducible refine Kd.C_drewN ?_ _) | (with_reducible refine Kd.C_drew ?_))); (case side2 => exact (Kd.R_reads' HO255.out).2.1); rintro e w13 ⟨v257, rfl, ho0, hb⟩; refine ⟨_, rfl, ?_⟩; have n0_ := Aside0.mk (Kd.R_elder' (by (with_reducible repeat (first | apply Kd.R_alloc | apply Kd.R_drewN | apply Kd.R_drew)); exact HO255.out) (Kd.R_base ho0) hb); have n1_ := Aside0.mk (Kd.R_lower (Kd.R_new' ho0 (Kd.R_lt (by (with_reducible repeat (first | apply Kd.R_alloc | apply Kd.R_drewN | apply Kd.R_drew)); exact HO255.out))) (below_size (by repeat (first | (with_reducible first | exact HB.out | apply below_alloc | apply pw_below_drewN | apply below_drew1) | exact HB.out)))); have n2_ := Aside0.mk (below_step (by repeat (first | (with_reducible first | exact HB.out | apply below_alloc | apply pw_below_drewN | apply below_drew1) | exact HB.out)) hb); clear HO255; clear HB; have HO255 := n0_; have HO258 := n1_; have HB := n2_; clear n0_ n1_ n2_; (try clear hb); (try clear hb2); (try clear hk); (try clear hi); (try clear ho0)) | ((with_reducible refine gate_dst (N := 6) rfl ?_); refine box_event ?hg (N := 6) ?hd (cs := #[.slice none 0 0, .int .i64 0, .string (⟨#[]⟩ : ByteArray), .int .i64 0]) (t := 36) ?hr ?_; (case hd => rfl); (case hg => rfl); (case hr => first | (go_simp; done) | (go_simp; rfl)); intro gb263 hg w14 hbox hb; have n0_ := Aside0.mk (Kd.R_below (by (with_reducible repeat (first | apply Kd.R_alloc | apply Kd.R_drewN | apply Kd.R_drew)); exact HO255.out) hb); have n1_ := Aside0.mk (Kd.R_below (by (with_reducible repeat (first | apply Kd.R_alloc | apply Kd.R_drewN | apply Kd.R_drew)); exact HO258.out) hb); have n2_ := Aside0.mk (below_step (by repeat (first | (with_reducible first | exact HB.out | apply below_alloc | apply pw_below_drewN | apply below_drew1) | exact HB.out)) hb); have n3_ := Aside0.mk (hbox); have n4_ := Aside0.mk ((by rw [hg]; exact (below_size (by repeat (first | (with_reducible first | exact HB.out | apply below_alloc | apply pw_below_drewN | apply below_drew1) | exact HB.out))) : w.heap.size ≤ gb263)); have n5_ := Aside0.mk ((by rw [hg]; exact (below_size (by repeat (first | (with_reducible first | exact HB.out | apply below_alloc | apply pw_below_drewN | apply below_drew1) | exact HB.out))) : w.heap.size ≤ gb263)); clear HO255; clear HO258; clear HB; have HO255 := n0_; have HO258 := n1_; have HB := n2_; have BK263 := n3_; have GW263 := n4_; have GE263 := n5_; clear n0_ n1_ n2_ n3_ n4_ n5_; clear hb hbox hg; obtain ⟨Ao15, co15, eo15⟩ := Kd.R_slice HO258.out; subst eo15; have hcz16_0 : w14.cell? ⟨gb263, 0, none⟩ = some (.slice none 0 0) := (blk_cell BK263.out 0).trans rfl; have hcz16_1 : w14.cell? ⟨gb263, 1, none⟩ = some (.int .i64 0) := (blk_cell BK263.out 1).trans rfl; have hcz16_2 : w14.cell? ⟨gb263, 2, none⟩ = some (.string (⟨#[]⟩ : ByteArray)) := (blk_cell BK263.out 2).trans rfl; have hcz16_3 : w14.cell? ⟨gb263, 3, none⟩ = some (.int .i64 0) := (blk_cell BK263.out 3).trans rfl; have hfz16_0 := blk_frozen BK263.out 0; have hfz16_1 := blk_frozen BK263.out 1; have hfz16_2 := blk_frozen BK263.out 2; have hfz16_3 := blk_frozen BK263.out 3) | ((with_reducible refine gate_callee (f := 61) rfl ?_); refine goesL_ (some 32) rfl rfl Try.func61 (by kernel_rfl) rfl #[.slice A1 l1.length c1] rfl (by (try simp only [List.map_toArray, List.map_cons, List.map_nil]); first | done | rfl | (simp only [List.length_drop, List.length_take]; rfl)) ?_; (with_reducible refine (laws_toExtS.calls k _ _ l1 t264 _ ?side1 ?side2 A8.out).mono ?_); (case side1 => exact Kd.C_below HR1.out (by repeat (first | (with_reducible first | exact HB.out | apply below_alloc | apply pw_below_drewN | apply below_drew1 | refine below_set ?_ GE263.out) | exact HB.out))); (case side2 => exact HC1.out); rintro e w17 ⟨v265, rfl, ho0, hb⟩; refine ⟨_, rfl, ?_⟩; have n0_ := Aside0.mk (Kd.R_elder' (by (with_reducible repeat (first | apply Kd.R_alloc | apply Kd.R_drewN | apply Kd.R_drew)); exact (Kd.R_mono (Kd.R_far (p := ⟨gb263, 3, none⟩) (Kd.R_far (p := ⟨gb263, 2, none⟩) (Kd.R_far (p := ⟨gb263, 1, none⟩) (Kd.R_far (p := ⟨gb263, 0, none⟩) (Kd.R_types HO255.out BK263.out (by decide)) (fun _ hk => hk.2) (.slice Ao15 t256.length co15)) (fun _ hk => hk.2) (.int .i64 t259)) (fun _ hk => hk.2) (.string t260)) (fun _ hk => hk.2) (.int .i64 t261)) (fun _ h_ => h_.1))) (Kd.R_base ho0) hb); have n1_ := Aside0.mk (Kd.R_elder' (by (with_reducible repeat (first | apply Kd.R_alloc | apply Kd.R_drewN | apply Kd.R_drew)); exact (Kd.R_mono (Kd.R_far (p := ⟨gb263, 3, none⟩) (Kd.R_far (p := ⟨gb263, 2, none⟩) (Kd.R_far (p := ⟨gb263, 1, none⟩) (Kd.R_far (p := ⟨gb263, 0, none⟩) (Kd.R_types HO258.out BK263.out (by decide)) (fun _ hk => hk.2) (.slice Ao15 t256.length co15)) (fun _ hk => hk.2) (.int .i64 t259)) (fun _ hk => hk.2) (.string t260)) (fun _ hk => hk.2) (.int .i64 t261)) (fun _ h_ => h_.1))) (Kd.R_base ho0) hb); have n2_ := Aside0.mk (Kd.R_lower (Kd.R_new' (Kd.R_new' ho0 (Kd.R_lt (by (with_reducible repeat (first | apply Kd.R_alloc | apply Kd.R_drewN | apply Kd.R_drew)); exact (Kd.R_mono (Kd.R_far (p := ⟨gb263, 3, none⟩) (Kd.R_far (p := ⟨gb263, 2, none⟩) (Kd.R_far (p := ⟨gb263, 1, none⟩) (Kd.R_far (p := ⟨gb263, 0, none⟩) (Kd.R_types HO255.out BK263.out (by decide)) (fun _ hk => hk.2) (.slice Ao15 t256.length co15)) (fun _ hk => hk.2) (.int .i64 t259)) (fun _ hk => hk.2) (.string t260)) (fun _ hk => hk.2) (.int .i64 t261)) (fun _ h_ => h_.1))))) (Kd.R_lt (by (with_reducible repeat (first | apply Kd.R_alloc | apply Kd.R_drewN | apply Kd.R_drew)); exact (Kd.R_mono (Kd.R_far (p := ⟨gb263, 3, none⟩) (Kd.R_far (p := ⟨gb263, 2, none⟩) (Kd.R_far (p := ⟨gb263, 1, none⟩) (Kd.R_far (p := ⟨gb263, 0, none⟩) (Kd.R_types HO258.out BK263.out (by decide)) (fun _ hk => hk.2) (.slice Ao15 t256.length co15)) (fun _ hk => hk.2) (.int .i64 t259)) (fun _ hk => hk.2) (.string t260)) (fun _ hk => hk.2) (.int .i64 t261)) (fun _ h_ => h_.1))))) (below_size (by repeat (first | (with_reducible first | exact HB.out | apply below_alloc | apply pw_below_drewN | apply below_drew1 | refine below_set ?_ GE263.out) | exact HB.out)))); have n3_ := Aside0.mk (blk_below (g := gb263) (o := .cells #[.slice Ao15 t256.length co15, .int .i64 t259, .string t260, .int .i64 t261] 36 (0, 0)) (by (with_reducible repeat (first | apply bN | apply bd | apply bA)); refine blk_put (cs := #[.slice Ao15 t256.length co15, .int .i64 t259, .string t260, .int .i64 0]) ?_ 3 _ rfl; (with_reducible repeat (first | apply bN | apply bd | apply bA)); refine blk_put (cs := #[.slice Ao15 t256.length co15, .int .i64 t259, .string (⟨#[]⟩ : ByteArray), .int .i64 0]) ?_ 2 _ rfl; (with_reducible repeat (first | apply bN | apply bd | apply bA)); refine blk_put (cs := #[.slice Ao15 t256.length co15, .int .i64 0, .string (⟨#[]⟩ : ByteArray), .int .i64 0]) ?_ 1 _ rfl; (with_reducible repeat (first | apply bN | apply bd | apply bA)); refine blk_put (cs := #[.slice none 0 0, .int .i64 0, .string (⟨#[]⟩ : ByteArray), .int .i64 0]) ?_ 0 _ rfl; (with_reducible repeat (first | apply bN | apply bd | apply bA)); exact BK263.out) hb); have n4_ := Aside0.mk (below_step (by repeat (first | (with_reducible first | exact HB.out | apply below_alloc | apply pw_below_drewN | apply below_drew1 | refine below_set ?_ GE263.out) | exact HB.out)) hb); clear HO255; clear HO258; clear BK263; clear HB; have HO255 := n0_; have HO258 := n1_; have HO266 := n2_; have BK263 := n3_; have HB := n4_; clear n0_ n1_ n2_ n3_ n4_; (try clear hb); (try clear hb2); (try clear hk); (try clear hi); (try clear ho0); obtain ⟨Ao18, co18, eo18⟩ := Kd.R_slice HO266.out; subst eo18) | ((with_reducible refine gate_callee (f := 62) rfl ?_); refine goesL_ (some 36) rfl rfl Try.func62 (by kernel_rfl) rfl #[.string a0, .slice Ao18 t264.length co18] rfl (by (try simp only [List.map_toArray, List.map_cons, List.map_nil]); first | done | rfl | (simp only [List.length_drop, List.length_take]; rfl)) ?_; (with_reducible refine (impl_NewScript.calls k a0 _ _ t264 t267 t270 t271 t272 t273 _ ?side1 ?side2 A9.out).mono ?_); (case side1 => repeat (first | exact (Kd.R_reads' HO266.out).2.2 | (with_reducible refine Kd.C_alloc ?_ _) | (with_reducible refine Kd.C_drewN ?_ _) | (with_reducible refine Kd.C_drew ?_))); (case side2 => exact (Kd.R_reads' HO266.out).2.1); rintro e w19 ⟨v268, rfl, ho0, hb⟩; refine ⟨_, rfl, ?_⟩; have n0_ := Aside0.mk (Kd.R_elder' (by (with_reducible repeat (first | apply Kd.R_alloc | apply Kd.R_drewN | apply Kd.R_drew)); exact HO255.out) (Kd.R_base ho0) hb); have n1_ := Aside0.mk (Kd.R_elder' (by (with_reducible repeat (first | apply Kd.R_alloc | apply Kd.R_drewN | apply Kd.R_drew)); exact HO258.out) (Kd.R_base ho0) hb); have n2_ := Aside0.mk (Kd.R_elder' (by (with_reducible repeat (first | apply Kd.R_alloc | apply Kd.R_drewN | apply Kd.R_drew)); exact HO266.out) (Kd.R_base ho0) hb); have n3_ := Aside0.mk (Kd.R_lower (Kd.R_new' (Kd.R_new' (Kd.R_new' ho0 (Kd.R_lt (by (with_reducible repeat (first | apply Kd.R_alloc | apply Kd.R_drewN | apply Kd.R_drew)); exact HO255.out))) (Kd.R_lt (by (with_reducible repeat (first | apply Kd.R_alloc | apply Kd.R_drewN | apply Kd.R_drew)); exact HO258.out))) (Kd.R_lt (by (with_reducible repeat (first | apply Kd.R_alloc | apply Kd.R_drewN | apply Kd.R_drew)); exact HO266.out))) (below_size (by repeat (first | (with_reducible first | exact HB.out | apply below_alloc | apply pw_below_drewN | apply below_drew1 | refine below_set ?_ GE263.out) | exact HB.out)))); have n4_ := Aside0.mk (blk_below (g := gb263) (o := .cells #[.slice Ao15 t256.length co15, .int .i64 t259, .string t260, .int .i64 t261] 36 (0, 0)) (by (with_reducible repeat (first | apply bN | apply bd | apply bA)); exact BK263.out) hb); have n5_ := Aside0.mk (below_step (by repeat (first | (with_reducible first | exact HB.out | apply below_alloc | apply pw_below_drewN | apply below_drew1 | refine below_set ?_ GE263.out) | exact HB.out)) hb); clear HO255; clear HO258; clear HO266; clear BK263; clear HB; have HO255 := n0_; have HO258 := n1_; have HO266 := n2_; have HO269 := n3_; have BK263 := n4_; have HB := n5_; clear n0_ n1_ n2_ n3_ n4_ n5_; (try clear hb); (try clear hb2); (try clear hk); (try clear hi); (try clear ho0)) | ((with_reducible refine gate_dst (N := 9) rfl ?_); refine box_event ?hg (N := 9) ?hd (cs := #[.slice none 0 0, .int .i64 0, .string (⟨#[]⟩ : ByteArray), .int .i64 0]) (t := 36) ?hr ?_; (case hd => rfl); (case hg => rfl); (case hr => first | (go_simp; done) | (go_simp; rfl)); intro gb274 hg w20 hbox hb; have n0_ := Aside0.mk (Kd.R_below (by (with_reducible repeat (first | apply Kd.R_alloc | apply Kd.R_drewN | apply Kd.R_drew)); exact HO255.out) hb); have n1_ := Aside0.mk (Kd.R_below (by (with_reducible repeat (first | apply Kd.R_alloc | apply Kd.R_drewN | apply Kd.R_drew)); exact HO258.out) hb); have n2_ := Aside0.mk (Kd.R_below (by (with_reducible repeat (first | apply Kd.R_alloc | apply Kd.R_drewN | apply Kd.R_drew)); exact HO266.out) hb); have n3_ := Aside0.mk (Kd.R_below (by (with_reducible repeat (first | apply Kd.R_alloc | apply Kd.R_drewN | apply Kd.R_drew)); exact HO269.out) hb); have n4_ := Aside0.mk (blk_below (g := gb263) (o := .cells #[.slice Ao15 t256.length co15, .int .i64 t259, .string t260, .int .i64 t261] 36 (0, 0)) (by (with_reducible repeat (first | apply bN | apply bd | apply bA)); exact BK263.out) hb); have n5_ := Aside0.mk (below_step (by repeat (first | (with_reducible first | exact HB.out | apply below_alloc | apply pw_below_drewN | apply below_drew1 | refine below_set ?_ GE263.out) | exact HB.out)) hb); have n6_ := Aside0.mk (hbox); have n7_ := Aside0.mk ((by rw [hg]; exact (below_size (by repeat (first | (with_reducible first | exact HB.out | apply below_alloc | apply pw_below_drewN | apply below_drew1 | refine below_set ?_ GE263.out) | exact HB.out))) : w.heap.size ≤ gb274)); have n8_ := Aside0.mk ((by rw [hg]; exact (below_size (by repeat (first | (with_reducible first | exact HB.out | apply below_alloc | apply pw_below_drewN | apply below_drew1 | refine below_set ?_ GE263.out) | exact HB.out))) : w.heap.size ≤ gb274)); have n9_ := Aside0.mk ((by rw [hg]; exact Nat.ne_of_lt (blk_lt (g := gb263) (o := .cells #[.slice Ao15 t256.length co15, .int .i64 t259, .string t260, .int .i64 t261] 36 (0, 0)) (by (with_reducible repeat (first | apply bN | apply bd | apply bA)); exact BK263.out)) : gb263 ≠ gb274)); have n10_ := Aside0.mk ((by rw [hg]; exact Nat.ne_of_gt (blk_lt (g := gb263) (o := .cells #[.slice Ao15 t256.length co15, .int .i64 t259, .string t260, .int .i64 t261] 36 (0, 0)) (by (with_reducible repeat (first | apply bN | apply bd | apply bA)); exact BK263.out)) : gb274 ≠ gb263)); clear HO255; clear HO258; clear HO266; clear HO269; clear BK263; clear HB; have HO255 := n0_; have HO258 := n1_; have HO266 := n2_; have HO269 := n3_; have BK263 := n4_; have HB := n5_; have BK274 := n6_; have GW274 := n7_; have GE274 := n8_; have NB263_274 := n9_; have NB274_263 := n10_; clear n0_ n1_ n2_ n3_ n4_ n5_ n6_ n7_ n8_ n9_ n10_; clear hb hbox hg; obtain ⟨Ao21, co21, eo21⟩ := Kd.R_slice HO269.out; subst eo21; have hnb22 := NB274_263.out; have hnc22 := NB263_274.out; have hcz23_0 : w20.cell? ⟨gb274, 0, none⟩ = some (.slice none 0 0) := (blk_cell BK274.out 0).trans rfl; have hcz23_1 : w20.cell? ⟨gb274, 1, none⟩ = some (.int .i64 0) := (blk_cell BK274.out 1).trans rfl; have hcz23_2 : w20.cell? ⟨gb274, 2, none⟩ = some (.string (⟨#[]⟩ : ByteArray)) := (blk_cell BK274.out 2).trans rfl; have hcz23_3 : w20.cell? ⟨gb274, 3, none⟩ = some (.int .i64 0) := (blk_cell BK274.out 3).trans rfl; have hfz23_0 := blk_frozen BK274.out 0; have hfz23_1 := blk_frozen BK274.out 1; have hfz23_2 := blk_frozen BK274.out 2; have hfz23_3 := blk_frozen BK274.out 3))
      (try simp only [Act.put, List.setIfInBounds_toArray, List.set_cons_zero, List.set_cons_succ])
      go_cut [47] (fun v47 wc => ∃ (kq : Nat) (x47_9 : Bool), v47 = .bool x47_9 ∧ Aside0 (laws_FnExactNewScript.j0 kq a0 l1 t262 t264 t273 x47_9 t256 t259 t260 t261 t267 t270 t271 t272 = some r) ∧ Aside0 (kq ≤ k) ∧ Aside0 (Kd.R k79 79 wc w.heap.size (fun k_ => some k_ ≠ ((.slice Ao15 t256.length co15) : Value).ownBlock ∧ some k_ ≠ ((.slice Ao21 t267.length co21) : Value).ownBlock) (.slice Ao18 t264.length co18) t264) ∧ Aside0 (Kd.R k79 79 wc w.heap.size (fun k_ => some k_ ≠ ((.slice Ao18 t264.length co18) : Value).ownBlock ∧ some k_ ≠ ((.slice Ao21 t267.length co21) : Value).ownBlock) (.slice Ao15 t256.length co15) t256) ∧ Aside0 (Kd.R k79 79 wc w.heap.size (fun k_ => some k_ ≠ ((.slice Ao18 t264.length co18) : Value).ownBlock ∧ some k_ ≠ ((.slice Ao15 t256.length co15) : Value).ownBlock) (.slice Ao21 t267.length co21) t267) ∧ Aside0 (wc.heap[gb263]? = some (.cells #[(.slice Ao15 t256.length co15), .int .i64 t259, .string t260, .int .i64 t261] 36 (0, 0))) ∧ Aside0 (wc.heap[gb274]? = some (.cells #[(.slice Ao21 t267.length co21), .int .i64 t270, .string t271, .int .i64 t272] 36 (0, 0))) ∧ Aside0 (Below w.heap.size w wc))
      case first =>
        have H := HC10.out
        clear HC10
        replace H := Option.bind_eq_some_iff.mp H
        obtain ⟨t275, A240, H⟩ := H
        replace H : (if t275 = true then (laws_FnExactNewScript.j0 k a0 l1 t262 t264 t273 (t273 != t262) t256 t259 t260 t261 t267 t270 t271 t272) else (laws_FnExactNewScript.j0 k a0 l1 t262 t264 t273 true t256 t259 t260 t261 t267 t270 t271 t272)) = some r := H
        have A24 := Aside0.mk A240
        clear A240
        by_cases c25 : t275 = true
        · subst c25
          have H1 : (laws_FnExactNewScript.j0 k a0 l1 t262 t264 t273 (t273 != t262) t256 t259 t260 t261 t267 t270 t271 t272) = some r := by rw [if_pos rfl] at H; exact H
          clear H
          have H := H1
          clear H1
          have H' := Aside0.mk H
          clear H
          have hnb26 := NB274_263.out
          have hnc26 := NB263_274.out
          have hcz27_0 : w20.cell? ⟨gb274, 0, none⟩ = some (.slice none 0 0) := (blk_cell BK274.out 0).trans rfl
          have hcz27_1 : w20.cell? ⟨gb274, 1, none⟩ = some (.int .i64 0) := (blk_cell BK274.out 1).trans rfl
          have hcz27_2 : w20.cell? ⟨gb274, 2, none⟩ = some (.string (⟨#[]⟩ : ByteArray)) := (blk_cell BK274.out 2).trans rfl
          have hcz27_3 : w20.cell? ⟨gb274, 3, none⟩ = some (.int .i64 0) := (blk_cell BK274.out 3).trans rfl
          have hfz27_0 := blk_frozen BK274.out 0
          have hfz27_1 := blk_frozen BK274.out 1
          have hfz27_2 := blk_frozen BK274.out 2
          have hfz27_3 := blk_frozen BK274.out 3
          have hcz28_0 : w20.cell? ⟨gb263, 0, none⟩ = some (.slice Ao15 t256.length co15) := (blk_cell BK263.out 0).trans rfl
          have hcz28_1 : w20.cell? ⟨gb263, 1, none⟩ = some (.int .i64 t259) := (blk_cell BK263.out 1).trans rfl
          have hcz28_2 : w20.cell? ⟨gb263, 2, none⟩ = some (.string t260) := (blk_cell BK263.out 2).trans rfl
          have hcz28_3 : w20.cell? ⟨gb263, 3, none⟩ = some (.int .i64 t261) := (blk_cell BK263.out 3).trans rfl
          have hfz28_0 := blk_frozen BK263.out 0
          have hfz28_1 := blk_frozen BK263.out 1
          have hfz28_2 := blk_frozen BK263.out 2
          have hfz28_3 := blk_frozen BK263.out 3
          go_wp2_with (first | ((with_reducible refine gate_callee (f := 36) rfl ?_); refine goesL_ (some 41) rfl rfl Try.func36 (by kernel_rfl) rfl #[.agg #[.slice Ao21 t267.length co21, .int .i64 t270, .string t271, .int .i64 t272], .agg #[.slice Ao15 t256.length co15, .int .i64 t259, .string t260, .int .i64 t261]] rfl (by (try simp only [List.map_toArray, List.map_cons, List.map_nil]); first | done | rfl | (simp only [List.length_drop, List.length_take]; rfl)) ?_; (with_reducible refine (laws_eqSource.calls k _ _ t267 t270 t271 t272 _ _ t256 t259 t260 t261 true _ ?side1 ?side2 ?side3 ?side4 A24.out).mono ?_); (case side1 => refine (Kd.R_reads' (e := 79) (base := w.heap.size) (ok := fun k_ => (((True ∧ some k_ ≠ (.slice Ao12 t253.length co12 : Value).ownBlock) ∧ some k_ ≠ (.slice Ao15 t256.length co15 : Value).ownBlock) ∧ some k_ ≠ (.slice Ao18 t264.length co18 : Value).ownBlock)) (n := t267.length) (c := co21) ?_).2.2; exact (by (with_reducible repeat (first | apply Kd.R_alloc | apply Kd.R_drewN | apply Kd.R_drew)); exact (Kd.R_mono (Kd.R_far (p := ⟨gb274, 3, none⟩) (Kd.R_far (p := ⟨gb274, 2, none⟩) (Kd.R_far (p := ⟨gb274, 1, none⟩) (Kd.R_far (p := ⟨gb274, 0, none⟩) (Kd.R_types HO269.out BK274.out (by decide)) (fun _ hk => hk.2) (.slice Ao21 t267.length co21)) (fun _ hk => hk.2) (.int .i64 t270)) (fun _ hk => hk.2) (.string t271)) (fun _ hk => hk.2) (.int .i64 t272)) (fun _ h_ => h_.1)))); (case side2 => exact (Kd.R_reads' HO269.out).2.1); (case side3 => refine (Kd.R_reads' (e := 79) (base := w.heap.size) (ok := fun k_ => (((True ∧ some k_ ≠ (.slice Ao12 t253.length co12 : Value).ownBlock) ∧ some k_ ≠ (.slice Ao18 t264.length co18 : Value).ownBlock) ∧ some k_ ≠ (.slice Ao21 t267.length co21 : Value).ownBlock)) (n := t256.length) (c := co15) ?_).2.2; exact (by (with_reducible repeat (first | apply Kd.R_alloc | apply Kd.R_drewN | apply Kd.R_drew)); exact (Kd.R_mono (Kd.R_far (p := ⟨gb274, 3, none⟩) (Kd.R_far (p := ⟨gb274, 2, none⟩) (Kd.R_far (p := ⟨gb274, 1, none⟩) (Kd.R_far (p := ⟨gb274, 0, none⟩) (Kd.R_types HO258.out BK274.out (by decide)) (fun _ hk => hk.2) (.slice Ao21 t267.length co21)) (fun _ hk => hk.2) (.int .i64 t270)) (fun _ hk => hk.2) (.string t271)) (fun _ hk => hk.2) (.int .i64 t272)) (fun _ h_ => h_.1)))); (case side4 => exact (Kd.R_reads' HO258.out).2.1); rintro e w29 ⟨rfl, hb⟩; refine ⟨_, rfl, ?_⟩; have n0_ := Aside0.mk (Kd.R_below (by (with_reducible repeat (first | apply Kd.R_alloc | apply Kd.R_drewN | apply Kd.R_drew)); exact (Kd.R_mono (Kd.R_far (p := ⟨gb274, 3, none⟩) (Kd.R_far (p := ⟨gb274, 2, none⟩) (Kd.R_far (p := ⟨gb274, 1, none⟩) (Kd.R_far (p := ⟨gb274, 0, none⟩) (Kd.R_types HO255.out BK274.out (by decide)) (fun _ hk => hk.2) (.slice Ao21 t267.length co21)) (fun _ hk => hk.2) (.int .i64 t270)) (fun _ hk => hk.2) (.string t271)) (fun _ hk => hk.2) (.int .i64 t272)) (fun _ h_ => h_.1))) hb); have n1_ := Aside0.mk (Kd.R_below (by (with_reducible repeat (first | apply Kd.R_alloc | apply Kd.R_drewN | apply Kd.R_drew)); exact (Kd.R_mono (Kd.R_far (p := ⟨gb274, 3, none⟩) (Kd.R_far (p := ⟨gb274, 2, none⟩) (Kd.R_far (p := ⟨gb274, 1, none⟩) (Kd.R_far (p := ⟨gb274, 0, none⟩) (Kd.R_types HO258.out BK274.out (by decide)) (fun _ hk => hk.2) (.slice Ao21 t267.length co21)) (fun _ hk => hk.2) (.int .i64 t270)) (fun _ hk => hk.2) (.string t271)) (fun _ hk => hk.2) (.int .i64 t272)) (fun _ h_ => h_.1))) hb); have n2_ := Aside0.mk (Kd.R_below (by (with_reducible repeat (first | apply Kd.R_alloc | apply Kd.R_drewN | apply Kd.R_drew)); exact (Kd.R_mono (Kd.R_far (p := ⟨gb274, 3, none⟩) (Kd.R_far (p := ⟨gb274, 2, none⟩) (Kd.R_far (p := ⟨gb274, 1, none⟩) (Kd.R_far (p := ⟨gb274, 0, none⟩) (Kd.R_types HO266.out BK274.out (by decide)) (fun _ hk => hk.2) (.slice Ao21 t267.length co21)) (fun _ hk => hk.2) (.int .i64 t270)) (fun _ hk => hk.2) (.string t271)) (fun _ hk => hk.2) (.int .i64 t272)) (fun _ h_ => h_.1))) hb); have n3_ := Aside0.mk (Kd.R_below (by (with_reducible repeat (first | apply Kd.R_alloc | apply Kd.R_drewN | apply Kd.R_drew)); exact (Kd.R_mono (Kd.R_far (p := ⟨gb274, 3, none⟩) (Kd.R_far (p := ⟨gb274, 2, none⟩) (Kd.R_far (p := ⟨gb274, 1, none⟩) (Kd.R_far (p := ⟨gb274, 0, none⟩) (Kd.R_types HO269.out BK274.out (by decide)) (fun _ hk => hk.2) (.slice Ao21 t267.length co21)) (fun _ hk => hk.2) (.int .i64 t270)) (fun _ hk => hk.2) (.string t271)) (fun _ hk => hk.2) (.int .i64 t272)) (fun _ h_ => h_.1))) hb); have n4_ := Aside0.mk (blk_below (g := gb263) (o := .cells #[.slice Ao15 t256.length co15, .int .i64 t259, .string t260, .int .i64 t261] 36 (0, 0)) (by (with_reducible repeat (first | apply bN | apply bd | apply bA)); refine blk_far ?_ NB263_274.out _; (with_reducible repeat (first | apply bN | apply bd | apply bA)); refine blk_far ?_ NB263_274.out _; (with_reducible repeat (first | apply bN | apply bd | apply bA)); refine blk_far ?_ NB263_274.out _; (with_reducible repeat (first | apply bN | apply bd | apply bA)); refine blk_far ?_ NB263_274.out _; (with_reducible repeat (first | apply bN | apply bd | apply bA)); exact BK263.out) hb); have n5_ := Aside0.mk (blk_below (g := gb274) (o := .cells #[.slice Ao21 t267.length co21, .int .i64 t270, .string t271, .int .i64 t272] 36 (0, 0)) (by (with_reducible repeat (first | apply bN | apply bd | apply bA)); refine blk_put (cs := #[.slice Ao21 t267.length co21, .int .i64 t270, .string t271, .int .i64 0]) ?_ 3 _ rfl; (with_reducible repeat (first | apply bN | apply bd | apply bA)); refine blk_put (cs := #[.slice Ao21 t267.length co21, .int .i64 t270, .string (⟨#[]⟩ : ByteArray), .int .i64 0]) ?_ 2 _ rfl; (with_reducible repeat (first | apply bN | apply bd | apply bA)); refine blk_put (cs := #[.slice Ao21 t267.length co21, .int .i64 0, .string (⟨#[]⟩ : ByteArray), .int .i64 0]) ?_ 1 _ rfl; (with_reducible repeat (first | apply bN | apply bd | apply bA)); refine blk_put (cs := #[.slice none 0 0, .int .i64 0, .string (⟨#[]⟩ : ByteArray), .int .i64 0]) ?_ 0 _ rfl; (with_reducible repeat (first | apply bN | apply bd | apply bA)); exact BK274.out) hb); have n6_ := Aside0.mk (below_step (by repeat (first | (with_reducible first | exact HB.out | apply below_alloc | apply pw_below_drewN | apply below_drew1 | refine below_set ?_ GE263.out | refine below_set ?_ GE274.out) | exact HB.out)) hb); clear HO255; clear HO258; clear HO266; clear HO269; clear BK263; clear BK274; clear HB; have HO255 := n0_; have HO258 := n1_; have HO266 := n2_; have HO269 := n3_; have BK263 := n4_; have BK274 := n5_; have HB := n6_; clear n0_ n1_ n2_ n3_ n4_ n5_ n6_; (try clear hb); (try clear hb2); (try clear hk); (try clear hi)))
          go_meet
          case rel => exact ⟨_, ((t273 != t262)), (by first | rfl | (simp; done) | (simp [*]; done)), H', ⟨by first | omega | exact Nat.le_refl _⟩, ⟨by (with_reducible repeat (first | apply Kd.R_alloc | apply Kd.R_drewN | apply Kd.R_drew)); exact Kd.R_mono HO266.out (fun _ hk => ⟨hk.1.2, hk.2⟩)⟩, ⟨by (with_reducible repeat (first | apply Kd.R_alloc | apply Kd.R_drewN | apply Kd.R_drew)); exact Kd.R_mono HO258.out (fun _ hk => ⟨hk.1.2, hk.2⟩)⟩, ⟨by (with_reducible repeat (first | apply Kd.R_alloc | apply Kd.R_drewN | apply Kd.R_drew)); exact Kd.R_mono HO269.out (fun _ hk => ⟨hk.2, hk.1.2⟩)⟩, ⟨by (with_reducible repeat (first | apply bN | apply bd | apply bA)); exact BK263.out⟩, ⟨by (with_reducible repeat (first | apply bN | apply bd | apply bA)); exact BK274.out⟩, ⟨by repeat (first | (with_reducible first | exact HB.out | apply below_alloc | apply pw_below_drewN | apply below_drew1 | refine below_set ?_ GE263.out | refine below_set ?_ GE274.out) | exact HB.out)⟩⟩
        · replace c25 := Bool.eq_false_iff.mpr c25
          subst c25
          have H1 : (laws_FnExactNewScript.j0 k a0 l1 t262 t264 t273 true t256 t259 t260 t261 t267 t270 t271 t272) = some r := by rw [if_neg (show ¬ (false = true) by decide)] at H; exact H
          clear H
          have H := H1
          clear H1
          have H' := Aside0.mk H
          clear H
          have hnb30 := NB274_263.out
          have hnc30 := NB263_274.out
          have hcz31_0 : w20.cell? ⟨gb274, 0, none⟩ = some (.slice none 0 0) := (blk_cell BK274.out 0).trans rfl
          have hcz31_1 : w20.cell? ⟨gb274, 1, none⟩ = some (.int .i64 0) := (blk_cell BK274.out 1).trans rfl
          have hcz31_2 : w20.cell? ⟨gb274, 2, none⟩ = some (.string (⟨#[]⟩ : ByteArray)) := (blk_cell BK274.out 2).trans rfl
          have hcz31_3 : w20.cell? ⟨gb274, 3, none⟩ = some (.int .i64 0) := (blk_cell BK274.out 3).trans rfl
          have hfz31_0 := blk_frozen BK274.out 0
          have hfz31_1 := blk_frozen BK274.out 1
          have hfz31_2 := blk_frozen BK274.out 2
          have hfz31_3 := blk_frozen BK274.out 3
          have hcz32_0 : w20.cell? ⟨gb263, 0, none⟩ = some (.slice Ao15 t256.length co15) := (blk_cell BK263.out 0).trans rfl
          have hcz32_1 : w20.cell? ⟨gb263, 1, none⟩ = some (.int .i64 t259) := (blk_cell BK263.out 1).trans rfl
          have hcz32_2 : w20.cell? ⟨gb263, 2, none⟩ = some (.string t260) := (blk_cell BK263.out 2).trans rfl
          have hcz32_3 : w20.cell? ⟨gb263, 3, none⟩ = some (.int .i64 t261) := (blk_cell BK263.out 3).trans rfl
          have hfz32_0 := blk_frozen BK263.out 0
          have hfz32_1 := blk_frozen BK263.out 1
          have hfz32_2 := blk_frozen BK263.out 2
          have hfz32_3 := blk_frozen BK263.out 3
          go_wp2_with (first | ((with_reducible refine gate_callee (f := 36) rfl ?_); refine goesL_ (some 41) rfl rfl Try.func36 (by kernel_rfl) rfl #[.agg #[.slice Ao21 t267.length co21, .int .i64 t270, .string t271, .int .i64 t272], .agg #[.slice Ao15 t256.length co15, .int .i64 t259, .string t260, .int .i64 t261]] rfl (by (try simp only [List.map_toArray, List.map_cons, List.map_nil]); first | done | rfl | (simp only [List.length_drop, List.length_take]; rfl)) ?_; (with_reducible refine (laws_eqSource.calls k _ _ t267 t270 t271 t272 _ _ t256 t259 t260 t261 false _ ?side1 ?side2 ?side3 ?side4 A24.out).mono ?_); (case side1 => refine (Kd.R_reads' (e := 79) (base := w.heap.size) (ok := fun k_ => (((True ∧ some k_ ≠ (.slice Ao12 t253.length co12 : Value).ownBlock) ∧ some k_ ≠ (.slice Ao15 t256.length co15 : Value).ownBlock) ∧ some k_ ≠ (.slice Ao18 t264.length co18 : Value).ownBlock)) (n := t267.length) (c := co21) ?_).2.2; exact (by (with_reducible repeat (first | apply Kd.R_alloc | apply Kd.R_drewN | apply Kd.R_drew)); exact (Kd.R_mono (Kd.R_far (p := ⟨gb274, 3, none⟩) (Kd.R_far (p := ⟨gb274, 2, none⟩) (Kd.R_far (p := ⟨gb274, 1, none⟩) (Kd.R_far (p := ⟨gb274, 0, none⟩) (Kd.R_types HO269.out BK274.out (by decide)) (fun _ hk => hk.2) (.slice Ao21 t267.length co21)) (fun _ hk => hk.2) (.int .i64 t270)) (fun _ hk => hk.2) (.string t271)) (fun _ hk => hk.2) (.int .i64 t272)) (fun _ h_ => h_.1)))); (case side2 => exact (Kd.R_reads' HO269.out).2.1); (case side3 => refine (Kd.R_reads' (e := 79) (base := w.heap.size) (ok := fun k_ => (((True ∧ some k_ ≠ (.slice Ao12 t253.length co12 : Value).ownBlock) ∧ some k_ ≠ (.slice Ao18 t264.length co18 : Value).ownBlock) ∧ some k_ ≠ (.slice Ao21 t267.length co21 : Value).ownBlock)) (n := t256.length) (c := co15) ?_).2.2; exact (by (with_reducible repeat (first | apply Kd.R_alloc | apply Kd.R_drewN | apply Kd.R_drew)); exact (Kd.R_mono (Kd.R_far (p := ⟨gb274, 3, none⟩) (Kd.R_far (p := ⟨gb274, 2, none⟩) (Kd.R_far (p := ⟨gb274, 1, none⟩) (Kd.R_far (p := ⟨gb274, 0, none⟩) (Kd.R_types HO258.out BK274.out (by decide)) (fun _ hk => hk.2) (.slice Ao21 t267.length co21)) (fun _ hk => hk.2) (.int .i64 t270)) (fun _ hk => hk.2) (.string t271)) (fun _ hk => hk.2) (.int .i64 t272)) (fun _ h_ => h_.1)))); (case side4 => exact (Kd.R_reads' HO258.out).2.1); rintro e w33 ⟨rfl, hb⟩; refine ⟨_, rfl, ?_⟩; have n0_ := Aside0.mk (Kd.R_below (by (with_reducible repeat (first | apply Kd.R_alloc | apply Kd.R_drewN | apply Kd.R_drew)); exact (Kd.R_mono (Kd.R_far (p := ⟨gb274, 3, none⟩) (Kd.R_far (p := ⟨gb274, 2, none⟩) (Kd.R_far (p := ⟨gb274, 1, none⟩) (Kd.R_far (p := ⟨gb274, 0, none⟩) (Kd.R_types HO255.out BK274.out (by decide)) (fun _ hk => hk.2) (.slice Ao21 t267.length co21)) (fun _ hk => hk.2) (.int .i64 t270)) (fun _ hk => hk.2) (.string t271)) (fun _ hk => hk.2) (.int .i64 t272)) (fun _ h_ => h_.1))) hb); have n1_ := Aside0.mk (Kd.R_below (by (with_reducible repeat (first | apply Kd.R_alloc | apply Kd.R_drewN | apply Kd.R_drew)); exact (Kd.R_mono (Kd.R_far (p := ⟨gb274, 3, none⟩) (Kd.R_far (p := ⟨gb274, 2, none⟩) (Kd.R_far (p := ⟨gb274, 1, none⟩) (Kd.R_far (p := ⟨gb274, 0, none⟩) (Kd.R_types HO258.out BK274.out (by decide)) (fun _ hk => hk.2) (.slice Ao21 t267.length co21)) (fun _ hk => hk.2) (.int .i64 t270)) (fun _ hk => hk.2) (.string t271)) (fun _ hk => hk.2) (.int .i64 t272)) (fun _ h_ => h_.1))) hb); have n2_ := Aside0.mk (Kd.R_below (by (with_reducible repeat (first | apply Kd.R_alloc | apply Kd.R_drewN | apply Kd.R_drew)); exact (Kd.R_mono (Kd.R_far (p := ⟨gb274, 3, none⟩) (Kd.R_far (p := ⟨gb274, 2, none⟩) (Kd.R_far (p := ⟨gb274, 1, none⟩) (Kd.R_far (p := ⟨gb274, 0, none⟩) (Kd.R_types HO266.out BK274.out (by decide)) (fun _ hk => hk.2) (.slice Ao21 t267.length co21)) (fun _ hk => hk.2) (.int .i64 t270)) (fun _ hk => hk.2) (.string t271)) (fun _ hk => hk.2) (.int .i64 t272)) (fun _ h_ => h_.1))) hb); have n3_ := Aside0.mk (Kd.R_below (by (with_reducible repeat (first | apply Kd.R_alloc | apply Kd.R_drewN | apply Kd.R_drew)); exact (Kd.R_mono (Kd.R_far (p := ⟨gb274, 3, none⟩) (Kd.R_far (p := ⟨gb274, 2, none⟩) (Kd.R_far (p := ⟨gb274, 1, none⟩) (Kd.R_far (p := ⟨gb274, 0, none⟩) (Kd.R_types HO269.out BK274.out (by decide)) (fun _ hk => hk.2) (.slice Ao21 t267.length co21)) (fun _ hk => hk.2) (.int .i64 t270)) (fun _ hk => hk.2) (.string t271)) (fun _ hk => hk.2) (.int .i64 t272)) (fun _ h_ => h_.1))) hb); have n4_ := Aside0.mk (blk_below (g := gb263) (o := .cells #[.slice Ao15 t256.length co15, .int .i64 t259, .string t260, .int .i64 t261] 36 (0, 0)) (by (with_reducible repeat (first | apply bN | apply bd | apply bA)); refine blk_far ?_ NB263_274.out _; (with_reducible repeat (first | apply bN | apply bd | apply bA)); refine blk_far ?_ NB263_274.out _; (with_reducible repeat (first | apply bN | apply bd | apply bA)); refine blk_far ?_ NB263_274.out _; (with_reducible repeat (first | apply bN | apply bd | apply bA)); refine blk_far ?_ NB263_274.out _; (with_reducible repeat (first | apply bN | apply bd | apply bA)); exact BK263.out) hb); have n5_ := Aside0.mk (blk_below (g := gb274) (o := .cells #[.slice Ao21 t267.length co21, .int .i64 t270, .string t271, .int .i64 t272] 36 (0, 0)) (by (with_reducible repeat (first | apply bN | apply bd | apply bA)); refine blk_put (cs := #[.slice Ao21 t267.length co21, .int .i64 t270, .string t271, .int .i64 0]) ?_ 3 _ rfl; (with_reducible repeat (first | apply bN | apply bd | apply bA)); refine blk_put (cs := #[.slice Ao21 t267.length co21, .int .i64 t270, .string (⟨#[]⟩ : ByteArray), .int .i64 0]) ?_ 2 _ rfl; (with_reducible repeat (first | apply bN | apply bd | apply bA)); refine blk_put (cs := #[.slice Ao21 t267.length co21, .int .i64 0, .string (⟨#[]⟩ : ByteArray), .int .i64 0]) ?_ 1 _ rfl; (with_reducible repeat (first | apply bN | apply bd | apply bA)); refine blk_put (cs := #[.slice none 0 0, .int .i64 0, .string (⟨#[]⟩ : ByteArray), .int .i64 0]) ?_ 0 _ rfl; (with_reducible repeat (first | apply bN | apply bd | apply bA)); exact BK274.out) hb); have n6_ := Aside0.mk (below_step (by repeat (first | (with_reducible first | exact HB.out | apply below_alloc | apply pw_below_drewN | apply below_drew1 | refine below_set ?_ GE263.out | refine below_set ?_ GE274.out) | exact HB.out)) hb); clear HO255; clear HO258; clear HO266; clear HO269; clear BK263; clear BK274; clear HB; have HO255 := n0_; have HO258 := n1_; have HO266 := n2_; have HO269 := n3_; have BK263 := n4_; have BK274 := n5_; have HB := n6_; clear n0_ n1_ n2_ n3_ n4_ n5_ n6_; (try clear hb); (try clear hb2); (try clear hk); (try clear hi)))
          go_meet
          case rel => exact ⟨_, (true), (by first | rfl | (simp; done) | (simp [*]; done)), H', ⟨by first | omega | exact Nat.le_refl _⟩, ⟨by (with_reducible repeat (first | apply Kd.R_alloc | apply Kd.R_drewN | apply Kd.R_drew)); exact Kd.R_mono HO266.out (fun _ hk => ⟨hk.1.2, hk.2⟩)⟩, ⟨by (with_reducible repeat (first | apply Kd.R_alloc | apply Kd.R_drewN | apply Kd.R_drew)); exact Kd.R_mono HO258.out (fun _ hk => ⟨hk.1.2, hk.2⟩)⟩, ⟨by (with_reducible repeat (first | apply Kd.R_alloc | apply Kd.R_drewN | apply Kd.R_drew)); exact Kd.R_mono HO269.out (fun _ hk => ⟨hk.2, hk.1.2⟩)⟩, ⟨by (with_reducible repeat (first | apply bN | apply bd | apply bA)); exact BK263.out⟩, ⟨by (with_reducible repeat (first | apply bN | apply bd | apply bA)); exact BK274.out⟩, ⟨by repeat (first | (with_reducible first | exact HB.out | apply below_alloc | apply pw_below_drewN | apply below_drew1 | refine below_set ?_ GE263.out | refine below_set ?_ GE274.out) | exact HB.out)⟩⟩
      case rest =>
        clear HC10
        try clear c1
        try clear c2
        try clear p2
        try clear c3
        try clear c3b0
        try clear c3b1
        try clear c5
        try clear c5b0
        try clear c6
        try clear c15
        try clear c22
        try clear c25
        try clear c26
        try clear c30
        try clear hcz16_0
        try clear hcz16_1
        try clear hcz16_2
        try clear hcz16_3
        try clear hcz23_0
        try clear hcz23_1
        try clear hcz23_2
        try clear hcz23_3
        try clear hcz27_0
        try clear hcz27_1
        try clear hcz27_2
        try clear hcz27_3
        try clear hcz28_0
        try clear hcz28_1
        try clear hcz28_2
        try clear hcz28_3
        try clear hcz31_0
        try clear hcz31_1
        try clear hcz31_2
        try clear hcz31_3
        try clear hcz32_0
        try clear hcz32_1
        try clear hcz32_2
        try clear hcz32_3
        try clear hfz16_0
        try clear hfz16_1
        try clear hfz16_2
        try clear hfz16_3
        try clear hfz23_0
        try clear hfz23_1
        try clear hfz23_2
        try clear hfz23_3
        try clear hfz27_0
        try clear hfz27_1
        try clear hfz27_2
        try clear hfz27_3
        try clear hfz28_0
        try clear hfz28_1
        try clear hfz28_2
        try clear hfz28_3
        try clear hfz31_0
        try clear hfz31_1
        try clear hfz31_2
        try clear hfz31_3
        try clear hfz32_0
        try clear hfz32_1
        try clear hfz32_2
        try clear hfz32_3
        obtain ⟨kq, x47_9, rfl, HA, HJ9, HO_8, HO_264000, HO_275000, BK263, BK274, HB⟩ := hcut
        cases kq with
        | zero => exact absurd HA.out (by simp [laws_FnExactNewScript.j0])
        | succ kj9 =>
          have H := HA.out
          clear HA
          simp only [laws_FnExactNewScript.j0] at H
          by_cases c34 : x47_9 = true
          · subst c34
            have H1 : (none) = some r := by rw [if_pos rfl] at H; exact H
            clear H
            have H := H1
            clear H1
            exact absurd H (by simp)
          · replace c34 := Bool.eq_false_iff.mpr c34
            subst c34
            have H1 : ((laws_toExtS.f kj9 l1).bind fun t276 => ((laws_eqExtS.f kj9 t264 t276).bind fun t279 => (if t279 = true then ((laws_markExtS.f kj9 t264 1).bind fun bt280 => (if bt280.1 < 0 then (laws_FnExactNewScript.j1 kj9 a0 l1 t262 true t256 t259 t260 t261 t267 t270 t271 t272) else ((laws_eqSource.f kj9 t267 t270 t271 t272 t256 t259 t260 t261).bind fun t282 => (if t282 = true then (laws_FnExactNewScript.j1 kj9 a0 l1 t262 (t273 != t262) t256 t259 t260 t261 t267 t270 t271 t272) else (laws_FnExactNewScript.j1 kj9 a0 l1 t262 true t256 t259 t260 t261 t267 t270 t271 t272))))) else (none)))) = some r := by rw [if_neg (show ¬ (false = true) by decide)] at H; exact H
            clear H
            have H := H1
            clear H1
            replace H := Option.bind_eq_some_iff.mp H
            obtain ⟨t276, A350, H⟩ := H
            replace H : ((laws_eqExtS.f kj9 t264 t276).bind fun t279 => (if t279 = true then ((laws_markExtS.f kj9 t264 1).bind fun bt280 => (if bt280.1 < 0 then (laws_FnExactNewScript.j1 kj9 a0 l1 t262 true t256 t259 t260 t261 t267 t270 t271 t272) else ((laws_eqSource.f kj9 t267 t270 t271 t272 t256 t259 t260 t261).bind fun t282 => (if t282 = true then (laws_FnExactNewScript.j1 kj9 a0 l1 t262 (t273 != t262) t256 t259 t260 t261 t267 t270 t271 t272) else (laws_FnExactNewScript.j1 kj9 a0 l1 t262 true t256 t259 t260 t261 t267 t270 t271 t272))))) else (none))) = some r := H
            have A35 := Aside0.mk A350
            clear A350
            replace H := Option.bind_eq_some_iff.mp H
            obtain ⟨t279, A360, H⟩ := H
            replace H : (if t279 = true then ((laws_markExtS.f kj9 t264 1).bind fun bt280 => (if bt280.1 < 0 then (laws_FnExactNewScript.j1 kj9 a0 l1 t262 true t256 t259 t260 t261 t267 t270 t271 t272) else ((laws_eqSource.f kj9 t267 t270 t271 t272 t256 t259 t260 t261).bind fun t282 => (if t282 = true then (laws_FnExactNewScript.j1 kj9 a0 l1 t262 (t273 != t262) t256 t259 t260 t261 t267 t270 t271 t272) else (laws_FnExactNewScript.j1 kj9 a0 l1 t262 true t256 t259 t260 t261 t267 t270 t271 t272))))) else (none)) = some r := H
            have A36 := Aside0.mk A360
            clear A360
            by_cases c37 : t279 = true
            · subst c37
              have H1 : ((laws_markExtS.f kj9 t264 1).bind fun bt280 => (if bt280.1 < 0 then (laws_FnExactNewScript.j1 kj9 a0 l1 t262 true t256 t259 t260 t261 t267 t270 t271 t272) else ((laws_eqSource.f kj9 t267 t270 t271 t272 t256 t259 t260 t261).bind fun t282 => (if t282 = true then (laws_FnExactNewScript.j1 kj9 a0 l1 t262 (t273 != t262) t256 t259 t260 t261 t267 t270 t271 t272) else (laws_FnExactNewScript.j1 kj9 a0 l1 t262 true t256 t259 t260 t261 t267 t270 t271 t272))))) = some r := by rw [if_pos rfl] at H; exact H
              clear H
              have H := H1
              clear H1
              replace H := Option.bind_eq_some_iff.mp H
              obtain ⟨⟨t280, t281⟩, A380, H⟩ := H
              replace H : (if t280 < 0 then (laws_FnExactNewScript.j1 kj9 a0 l1 t262 true t256 t259 t260 t261 t267 t270 t271 t272) else ((laws_eqSource.f kj9 t267 t270 t271 t272 t256 t259 t260 t261).bind fun t282 => (if t282 = true then (laws_FnExactNewScript.j1 kj9 a0 l1 t262 (t273 != t262) t256 t259 t260 t261 t267 t270 t271 t272) else (laws_FnExactNewScript.j1 kj9 a0 l1 t262 true t256 t259 t260 t261 t267 t270 t271 t272)))) = some r := H
              have A38 := Aside0.mk A380
              clear A380
              have HC39 := Aside0.mk H
              clear H
              go_upto_region 16 with (first | ((with_reducible refine gate_callee (f := 61) rfl ?_); refine goesL_ (some 50) rfl rfl Try.func61 (by kernel_rfl) rfl #[.slice A1 l1.length c1] rfl (by (try simp only [List.map_toArray, List.map_cons, List.map_nil]); first | done | rfl | (simp only [List.length_drop, List.length_take]; rfl)) ?_; (with_reducible refine (laws_toExtS.calls kj9 _ _ l1 t276 _ ?side1 ?side2 A35.out).mono ?_); (case side1 => repeat (first | exact (Kd.C_below HR1.out HB.out) | (with_reducible refine Kd.C_alloc ?_ _) | (with_reducible refine Kd.C_drewN ?_ _) | (with_reducible refine Kd.C_drew ?_))); (case side2 => exact HC1.out); rintro e w40 ⟨v277, rfl, ho0, hb⟩; refine ⟨_, rfl, ?_⟩; have n0_ := Aside0.mk (Kd.R_elder' (by (with_reducible repeat (first | apply Kd.R_alloc | apply Kd.R_drewN | apply Kd.R_drew)); exact HO_8.out) (Kd.R_base ho0) hb); have n1_ := Aside0.mk (Kd.R_elder' (by (with_reducible repeat (first | apply Kd.R_alloc | apply Kd.R_drewN | apply Kd.R_drew)); exact HO_264000.out) (Kd.R_base ho0) hb); have n2_ := Aside0.mk (Kd.R_elder' (by (with_reducible repeat (first | apply Kd.R_alloc | apply Kd.R_drewN | apply Kd.R_drew)); exact HO_275000.out) (Kd.R_base ho0) hb); have n3_ := Aside0.mk (Kd.R_lower (Kd.R_new' (Kd.R_new' (Kd.R_new' ho0 (Kd.R_lt (by (with_reducible repeat (first | apply Kd.R_alloc | apply Kd.R_drewN | apply Kd.R_drew)); exact HO_8.out))) (Kd.R_lt (by (with_reducible repeat (first | apply Kd.R_alloc | apply Kd.R_drewN | apply Kd.R_drew)); exact HO_264000.out))) (Kd.R_lt (by (with_reducible repeat (first | apply Kd.R_alloc | apply Kd.R_drewN | apply Kd.R_drew)); exact HO_275000.out))) (below_size (by repeat (first | (with_reducible first | exact HB.out | apply below_alloc | apply pw_below_drewN | apply below_drew1 | refine below_set ?_ GE263.out | refine below_set ?_ GE274.out) | exact HB.out)))); have n4_ := Aside0.mk (blk_below (g := gb263) (o := .cells #[.slice Ao15 t256.length co15, .int .i64 t259, .string t260, .int .i64 t261] 36 (0, 0)) (by (with_reducible repeat (first | apply bN | apply bd | apply bA)); exact BK263.out) hb); have n5_ := Aside0.mk (blk_below (g := gb274) (o := .cells #[.slice Ao21 t267.length co21, .int .i64 t270, .string t271, .int .i64 t272] 36 (0, 0)) (by (with_reducible repeat (first | apply bN | apply bd | apply bA)); exact BK274.out) hb); have n6_ := Aside0.mk (below_step (by repeat (first | (with_reducible first | exact HB.out | apply below_alloc | apply pw_below_drewN | apply below_drew1 | refine below_set ?_ GE263.out | refine below_set ?_ GE274.out) | exact HB.out)) hb); clear HO_8; clear HO_264000; clear HO_275000; clear BK263; clear BK274; clear HB; have HO_8 := n0_; have HO_264000 := n1_; have HO_275000 := n2_; have HO278 := n3_; have BK263 := n4_; have BK274 := n5_; have HB := n6_; clear n0_ n1_ n2_ n3_ n4_ n5_ n6_; (try clear hb); (try clear hb2); (try clear hk); (try clear hi); (try clear ho0); obtain ⟨Ao41, co41, eo41⟩ := Kd.R_slice HO278.out; subst eo41) | ((with_reducible refine gate_callee (f := 63) rfl ?_); refine goesL_ (some 51) rfl rfl Try.func63 (by kernel_rfl) rfl #[.slice Ao18 t264.length co18, .slice Ao41 t276.length co41] rfl (by (try simp only [List.map_toArray, List.map_cons, List.map_nil]); first | done | rfl | (simp only [List.length_drop, List.length_take]; rfl)) ?_; (with_reducible refine (laws_eqExtS.calls kj9 _ _ t264 _ _ t276 true _ ?side1 ?side2 ?side3 ?side4 A36.out).mono ?_); (case side1 => repeat (first | exact (Kd.R_reads' HO_8.out).2.2 | (with_reducible refine Kd.C_alloc ?_ _) | (with_reducible refine Kd.C_drewN ?_ _) | (with_reducible refine Kd.C_drew ?_))); (case side2 => exact (Kd.R_reads' HO_8.out).2.1); (case side3 => repeat (first | exact (Kd.R_reads' HO278.out).2.2 | (with_reducible refine Kd.C_alloc ?_ _) | (with_reducible refine Kd.C_drewN ?_ _) | (with_reducible refine Kd.C_drew ?_))); (case side4 => exact (Kd.R_reads' HO278.out).2.1); rintro e w42 ⟨rfl, hb⟩; refine ⟨_, rfl, ?_⟩; have n0_ := Aside0.mk (Kd.R_below (by (with_reducible repeat (first | apply Kd.R_alloc | apply Kd.R_drewN | apply Kd.R_drew)); exact HO_8.out) hb); have n1_ := Aside0.mk (Kd.R_below (by (with_reducible repeat (first | apply Kd.R_alloc | apply Kd.R_drewN | apply Kd.R_drew)); exact HO_264000.out) hb); have n2_ := Aside0.mk (Kd.R_below (by (with_reducible repeat (first | apply Kd.R_alloc | apply Kd.R_drewN | apply Kd.R_drew)); exact HO_275000.out) hb); have n3_ := Aside0.mk (Kd.R_below (by (with_reducible repeat (first | apply Kd.R_alloc | apply Kd.R_drewN | apply Kd.R_drew)); exact HO278.out) hb); have n4_ := Aside0.mk (blk_below (g := gb263) (o := .cells #[.slice Ao15 t256.length co15, .int .i64 t259, .string t260, .int .i64 t261] 36 (0, 0)) (by (with_reducible repeat (first | apply bN | apply bd | apply bA)); exact BK263.out) hb); have n5_ := Aside0.mk (blk_below (g := gb274) (o := .cells #[.slice Ao21 t267.length co21, .int .i64 t270, .string t271, .int .i64 t272] 36 (0, 0)) (by (with_reducible repeat (first | apply bN | apply bd | apply bA)); exact BK274.out) hb); have n6_ := Aside0.mk (below_step (by repeat (first | (with_reducible first | exact HB.out | apply below_alloc | apply pw_below_drewN | apply below_drew1 | refine below_set ?_ GE263.out | refine below_set ?_ GE274.out) | exact HB.out)) hb); clear HO_8; clear HO_264000; clear HO_275000; clear HO278; clear BK263; clear BK274; clear HB; have HO_8 := n0_; have HO_264000 := n1_; have HO_275000 := n2_; have HO278 := n3_; have BK263 := n4_; have BK274 := n5_; have HB := n6_; clear n0_ n1_ n2_ n3_ n4_ n5_ n6_; (try clear hb); (try clear hb2); (try clear hk); (try clear hi)) | ((with_reducible refine gate_callee (f := 64) rfl ?_); refine goesL_ (some 55) rfl rfl Try.func64 (by kernel_rfl) rfl #[.slice Ao18 t264.length co18, .int .i64 1] rfl (by (try simp only [List.map_toArray, List.map_cons, List.map_nil]); first | done | rfl | (simp only [List.length_drop, List.length_take]; rfl)) ?_; (with_reducible refine (laws_markExtS.calls kj9 (fun k_ => some k_ = (.slice Ao18 t264.length co18 : Value).ownBlock) (.slice Ao18 t264.length co18) t264 1 t280 t281 w _ ?side1 ?side2 A38.out).mono ?_); (case side1 => repeat (first | (with_reducible first | exact HB.out | apply below_alloc | apply pw_below_drewN | apply below_drew1 | refine below_set ?_ GE263.out | refine below_set ?_ GE274.out) | exact HB.out)); (case side2 => exact Kd.R_tight rfl HO_8.out); rintro e w43 ⟨rfl, hy0, hb, hkp⟩; refine ⟨_, rfl, ?_⟩; have n0_ := Aside0.mk (Kd.R_reok rfl hy0 (fun k_ e_ => HO_8.out.1 k_ e_)); have n1_ := Aside0.mk (Kd.R_mono (ok' := fun k_ => some k_ ≠ (.slice Ao18 t264.length co18 : Value).ownBlock ∧ some k_ ≠ (.slice Ao21 t267.length co21 : Value).ownBlock ∧ some k_ ≠ (.slice Ao41 t276.length co41 : Value).ownBlock) (Kd.R_keptB (HO_264000.out) hkp (fun k_ hk_ hs_ => (hk_.1.1) hs_)) (fun k_ hk_ => ⟨hk_.1.1.1, hk_.1.1.2, hk_.1.2⟩)); have n2_ := Aside0.mk (Kd.R_mono (ok' := fun k_ => some k_ ≠ (.slice Ao18 t264.length co18 : Value).ownBlock ∧ some k_ ≠ (.slice Ao15 t256.length co15 : Value).ownBlock ∧ some k_ ≠ (.slice Ao41 t276.length co41 : Value).ownBlock) (Kd.R_keptB (HO_275000.out) hkp (fun k_ hk_ hs_ => (hk_.1.1) hs_)) (fun k_ hk_ => ⟨hk_.1.1.1, hk_.1.1.2, hk_.1.2⟩)); have n3_ := Aside0.mk (blk_kept (by (with_reducible repeat (first | apply bN | apply bd | apply bA)); exact BK263.out) hkp (fun hs_ => (fun e_ => (Kd.R_ne HO_8.out BK263.out (by decide)) e_) hs_)); have n4_ := Aside0.mk (blk_kept (by (with_reducible repeat (first | apply bN | apply bd | apply bA)); exact BK274.out) hkp (fun hs_ => (fun e_ => (Kd.R_ne HO_8.out BK274.out (by decide)) e_) hs_)); have n5_ := Aside0.mk (Kd.R_mono (ok' := fun k_ => some k_ ≠ (.slice Ao18 t264.length co18 : Value).ownBlock ∧ some k_ ≠ (.slice Ao15 t256.length co15 : Value).ownBlock ∧ some k_ ≠ (.slice Ao21 t267.length co21 : Value).ownBlock) (Kd.R_keptB (HO278.out) hkp (fun k_ hk_ hs_ => (hk_.1.1.2) hs_)) (fun k_ hk_ => ⟨hk_.1.1.1.2, hk_.1.1.2, hk_.1.2⟩)); have n6_ := Aside0.mk (hb); clear HO_8; clear HO_264000; clear HO_275000; clear BK263; clear BK274; clear HO278; clear HB; have HO_8 := n0_; have HO_264000 := n1_; have HO_275000 := n2_; have BK263 := n3_; have BK274 := n4_; have HO278 := n5_; have HB := n6_; clear n0_ n1_ n2_ n3_ n4_ n5_ n6_; (try clear hb); (try clear hkp); (try clear hy0)))
              (try simp only [Act.put, List.setIfInBounds_toArray, List.set_cons_zero, List.set_cons_succ])
              go_cut [68] (fun v68 wc => ∃ (kq : Nat) (x68_38 : Bool), v68 = .bool x68_38 ∧ Aside0 (laws_FnExactNewScript.j1 kq a0 l1 t262 x68_38 t256 t259 t260 t261 t267 t270 t271 t272 = some r) ∧ Aside0 (kq ≤ kj9) ∧ Aside0 (Kd.R k79 79 wc w.heap.size (fun k_ => some k_ ≠ ((.slice Ao21 t267.length co21) : Value).ownBlock) (.slice Ao15 t256.length co15) t256) ∧ Aside0 (Kd.R k79 79 wc w.heap.size (fun k_ => some k_ ≠ ((.slice Ao15 t256.length co15) : Value).ownBlock) (.slice Ao21 t267.length co21) t267) ∧ Aside0 (wc.heap[gb263]? = some (.cells #[(.slice Ao15 t256.length co15), .int .i64 t259, .string t260, .int .i64 t261] 36 (0, 0))) ∧ Aside0 (wc.heap[gb274]? = some (.cells #[(.slice Ao21 t267.length co21), .int .i64 t270, .string t271, .int .i64 t272] 36 (0, 0))) ∧ Aside0 (Below w.heap.size w wc))
              case first =>
                have H := HC39.out
                clear HC39
                by_cases c44 : t280 < 0
                · rw [if_pos c44] at H
                  have c44b0 : decide (t280 < 0) = true := decide_eq_true c44
                  clear c44
                  (first | rw [c44b0] | (simp only [i64_w, i32_w]; rw [c44b0]) | skip)
                  have H' := Aside0.mk H
                  clear H
                  go_wp2
                  go_meet
                  case rel => exact ⟨_, (true), (by first | rfl | (simp; done) | (simp [*]; done)), H', ⟨by have := HJ9.out; first | omega | exact Nat.le_refl _⟩, ⟨by (with_reducible repeat (first | apply Kd.R_alloc | apply Kd.R_drewN | apply Kd.R_drew)); exact Kd.R_mono HO_264000.out (fun _ hk => hk.2.1)⟩, ⟨by (with_reducible repeat (first | apply Kd.R_alloc | apply Kd.R_drewN | apply Kd.R_drew)); exact Kd.R_mono HO_275000.out (fun _ hk => hk.2.1)⟩, ⟨by (with_reducible repeat (first | apply bN | apply bd | apply bA)); exact BK263.out⟩, ⟨by (with_reducible repeat (first | apply bN | apply bd | apply bA)); exact BK274.out⟩, ⟨by repeat (first | (with_reducible first | exact HB.out | apply below_alloc | apply pw_below_drewN | apply below_drew1 | refine below_set ?_ GE263.out | refine below_set ?_ GE274.out) | exact HB.out)⟩⟩
                · rw [if_neg c44] at H
                  have c44b0 : decide (t280 < 0) = false := decide_eq_false c44
                  clear c44
                  (first | rw [c44b0] | (simp only [i64_w, i32_w]; rw [c44b0]) | skip)
                  replace H := Option.bind_eq_some_iff.mp H
                  obtain ⟨t282, A450, H⟩ := H
                  replace H : (if t282 = true then (laws_FnExactNewScript.j1 kj9 a0 l1 t262 (t273 != t262) t256 t259 t260 t261 t267 t270 t271 t272) else (laws_FnExactNewScript.j1 kj9 a0 l1 t262 true t256 t259 t260 t261 t267 t270 t271 t272)) = some r := H
                  have A45 := Aside0.mk A450
                  clear A450
                  by_cases c46 : t282 = true
                  · subst c46
                    have H1 : (laws_FnExactNewScript.j1 kj9 a0 l1 t262 (t273 != t262) t256 t259 t260 t261 t267 t270 t271 t272) = some r := by rw [if_pos rfl] at H; exact H
                    clear H
                    have H := H1
                    clear H1
                    have H' := Aside0.mk H
                    clear H
                    have hnb47 := NB274_263.out
                    have hnc47 := NB263_274.out
                    have hcz48_0 : w43.cell? ⟨gb274, 0, none⟩ = some (.slice Ao21 t267.length co21) := (blk_cell BK274.out 0).trans rfl
                    have hcz48_1 : w43.cell? ⟨gb274, 1, none⟩ = some (.int .i64 t270) := (blk_cell BK274.out 1).trans rfl
                    have hcz48_2 : w43.cell? ⟨gb274, 2, none⟩ = some (.string t271) := (blk_cell BK274.out 2).trans rfl
                    have hcz48_3 : w43.cell? ⟨gb274, 3, none⟩ = some (.int .i64 t272) := (blk_cell BK274.out 3).trans rfl
                    have hfz48_0 := blk_frozen BK274.out 0
                    have hfz48_1 := blk_frozen BK274.out 1
                    have hfz48_2 := blk_frozen BK274.out 2
                    have hfz48_3 := blk_frozen BK274.out 3
                    have hcz49_0 : w43.cell? ⟨gb263, 0, none⟩ = some (.slice Ao15 t256.length co15) := (blk_cell BK263.out 0).trans rfl
                    have hcz49_1 : w43.cell? ⟨gb263, 1, none⟩ = some (.int .i64 t259) := (blk_cell BK263.out 1).trans rfl
                    have hcz49_2 : w43.cell? ⟨gb263, 2, none⟩ = some (.string t260) := (blk_cell BK263.out 2).trans rfl
                    have hcz49_3 : w43.cell? ⟨gb263, 3, none⟩ = some (.int .i64 t261) := (blk_cell BK263.out 3).trans rfl
                    have hfz49_0 := blk_frozen BK263.out 0
                    have hfz49_1 := blk_frozen BK263.out 1
                    have hfz49_2 := blk_frozen BK263.out 2
                    have hfz49_3 := blk_frozen BK263.out 3
                    go_wp2_with (first | (go_at_call 36; (with_reducible refine (laws_eqSource.calls kj9 _ _ t267 t270 t271 t272 _ _ t256 t259 t260 t261 true _ ?side1 ?side2 ?side3 ?side4 A45.out).mono ?_); (case side1 => repeat (first | exact (Kd.R_reads' HO_275000.out).2.2 | (with_reducible refine Kd.C_alloc ?_ _) | (with_reducible refine Kd.C_drewN ?_ _) | (with_reducible refine Kd.C_drew ?_))); (case side2 => exact (Kd.R_reads' HO_275000.out).2.1); (case side3 => repeat (first | exact (Kd.R_reads' HO_264000.out).2.2 | (with_reducible refine Kd.C_alloc ?_ _) | (with_reducible refine Kd.C_drewN ?_ _) | (with_reducible refine Kd.C_drew ?_))); (case side4 => exact (Kd.R_reads' HO_264000.out).2.1); rintro e w50 ⟨rfl, hb⟩; have n0_ := Aside0.mk (Kd.R_below (by (with_reducible repeat (first | apply Kd.R_alloc | apply Kd.R_drewN | apply Kd.R_drew)); exact HO_8.out) hb); have n1_ := Aside0.mk (Kd.R_below (by (with_reducible repeat (first | apply Kd.R_alloc | apply Kd.R_drewN | apply Kd.R_drew)); exact HO_264000.out) hb); have n2_ := Aside0.mk (Kd.R_below (by (with_reducible repeat (first | apply Kd.R_alloc | apply Kd.R_drewN | apply Kd.R_drew)); exact HO_275000.out) hb); have n3_ := Aside0.mk (Kd.R_below (by (with_reducible repeat (first | apply Kd.R_alloc | apply Kd.R_drewN | apply Kd.R_drew)); exact HO278.out) hb); have n4_ := Aside0.mk (blk_below (g := gb263) (o := .cells #[.slice Ao15 t256.length co15, .int .i64 t259, .string t260, .int .i64 t261] 36 (0, 0)) (by (with_reducible repeat (first | apply bN | apply bd | apply bA)); exact BK263.out) hb); have n5_ := Aside0.mk (blk_below (g := gb274) (o := .cells #[.slice Ao21 t267.length co21, .int .i64 t270, .string t271, .int .i64 t272] 36 (0, 0)) (by (with_reducible repeat (first | apply bN | apply bd | apply bA)); exact BK274.out) hb); have n6_ := Aside0.mk (below_step (by repeat (first | (with_reducible first | exact HB.out | apply below_alloc | apply pw_below_drewN | apply below_drew1 | refine below_set ?_ GE263.out | refine below_set ?_ GE274.out) | exact HB.out)) hb); clear HO_8; clear HO_264000; clear HO_275000; clear HO278; clear BK263; clear BK274; clear HB; have HO_8 := n0_; have HO_264000 := n1_; have HO_275000 := n2_; have HO278 := n3_; have BK263 := n4_; have BK274 := n5_; have HB := n6_; clear n0_ n1_ n2_ n3_ n4_ n5_ n6_; (try clear hb); (try clear hb2); (try clear hk); (try clear hi)))
                    go_meet
                    case rel => exact ⟨_, ((t273 != t262)), (by first | rfl | (simp; done) | (simp [*]; done)), H', ⟨by have := HJ9.out; first | omega | exact Nat.le_refl _⟩, ⟨by (with_reducible repeat (first | apply Kd.R_alloc | apply Kd.R_drewN | apply Kd.R_drew)); exact Kd.R_mono HO_264000.out (fun _ hk => hk.2.1)⟩, ⟨by (with_reducible repeat (first | apply Kd.R_alloc | apply Kd.R_drewN | apply Kd.R_drew)); exact Kd.R_mono HO_275000.out (fun _ hk => hk.2.1)⟩, ⟨by (with_reducible repeat (first | apply bN | apply bd | apply bA)); exact BK263.out⟩, ⟨by (with_reducible repeat (first | apply bN | apply bd | apply bA)); exact BK274.out⟩, ⟨by repeat (first | (with_reducible first | exact HB.out | apply below_alloc | apply pw_below_drewN | apply below_drew1 | refine below_set ?_ GE263.out | refine below_set ?_ GE274.out) | exact HB.out)⟩⟩
                  · replace c46 := Bool.eq_false_iff.mpr c46
                    subst c46
                    have H1 : (laws_FnExactNewScript.j1 kj9 a0 l1 t262 true t256 t259 t260 t261 t267 t270 t271 t272) = some r := by rw [if_neg (show ¬ (false = true) by decide)] at H; exact H
                    clear H
                    have H := H1
                    clear H1
                    have H' := Aside0.mk H
                    clear H
                    have hnb51 := NB274_263.out
                    have hnc51 := NB263_274.out
                    have hcz52_0 : w43.cell? ⟨gb274, 0, none⟩ = some (.slice Ao21 t267.length co21) := (blk_cell BK274.out 0).trans rfl
                    have hcz52_1 : w43.cell? ⟨gb274, 1, none⟩ = some (.int .i64 t270) := (blk_cell BK274.out 1).trans rfl
                    have hcz52_2 : w43.cell? ⟨gb274, 2, none⟩ = some (.string t271) := (blk_cell BK274.out 2).trans rfl
                    have hcz52_3 : w43.cell? ⟨gb274, 3, none⟩ = some (.int .i64 t272) := (blk_cell BK274.out 3).trans rfl
                    have hfz52_0 := blk_frozen BK274.out 0
                    have hfz52_1 := blk_frozen BK274.out 1
                    have hfz52_2 := blk_frozen BK274.out 2
                    have hfz52_3 := blk_frozen BK274.out 3
                    have hcz53_0 : w43.cell? ⟨gb263, 0, none⟩ = some (.slice Ao15 t256.length co15) := (blk_cell BK263.out 0).trans rfl
                    have hcz53_1 : w43.cell? ⟨gb263, 1, none⟩ = some (.int .i64 t259) := (blk_cell BK263.out 1).trans rfl
                    have hcz53_2 : w43.cell? ⟨gb263, 2, none⟩ = some (.string t260) := (blk_cell BK263.out 2).trans rfl
                    have hcz53_3 : w43.cell? ⟨gb263, 3, none⟩ = some (.int .i64 t261) := (blk_cell BK263.out 3).trans rfl
                    have hfz53_0 := blk_frozen BK263.out 0
                    have hfz53_1 := blk_frozen BK263.out 1
                    have hfz53_2 := blk_frozen BK263.out 2
                    have hfz53_3 := blk_frozen BK263.out 3
                    go_wp2_with (first | (go_at_call 36; (with_reducible refine (laws_eqSource.calls kj9 _ _ t267 t270 t271 t272 _ _ t256 t259 t260 t261 false _ ?side1 ?side2 ?side3 ?side4 A45.out).mono ?_); (case side1 => repeat (first | exact (Kd.R_reads' HO_275000.out).2.2 | (with_reducible refine Kd.C_alloc ?_ _) | (with_reducible refine Kd.C_drewN ?_ _) | (with_reducible refine Kd.C_drew ?_))); (case side2 => exact (Kd.R_reads' HO_275000.out).2.1); (case side3 => repeat (first | exact (Kd.R_reads' HO_264000.out).2.2 | (with_reducible refine Kd.C_alloc ?_ _) | (with_reducible refine Kd.C_drewN ?_ _) | (with_reducible refine Kd.C_drew ?_))); (case side4 => exact (Kd.R_reads' HO_264000.out).2.1); rintro e w54 ⟨rfl, hb⟩; have n0_ := Aside0.mk (Kd.R_below (by (with_reducible repeat (first | apply Kd.R_alloc | apply Kd.R_drewN | apply Kd.R_drew)); exact HO_8.out) hb); have n1_ := Aside0.mk (Kd.R_below (by (with_reducible repeat (first | apply Kd.R_alloc | apply Kd.R_drewN | apply Kd.R_drew)); exact HO_264000.out) hb); have n2_ := Aside0.mk (Kd.R_below (by (with_reducible repeat (first | apply Kd.R_alloc | apply Kd.R_drewN | apply Kd.R_drew)); exact HO_275000.out) hb); have n3_ := Aside0.mk (Kd.R_below (by (with_reducible repeat (first | apply Kd.R_alloc | apply Kd.R_drewN | apply Kd.R_drew)); exact HO278.out) hb); have n4_ := Aside0.mk (blk_below (g := gb263) (o := .cells #[.slice Ao15 t256.length co15, .int .i64 t259, .string t260, .int .i64 t261] 36 (0, 0)) (by (with_reducible repeat (first | apply bN | apply bd | apply bA)); exact BK263.out) hb); have n5_ := Aside0.mk (blk_below (g := gb274) (o := .cells #[.slice Ao21 t267.length co21, .int .i64 t270, .string t271, .int .i64 t272] 36 (0, 0)) (by (with_reducible repeat (first | apply bN | apply bd | apply bA)); exact BK274.out) hb); have n6_ := Aside0.mk (below_step (by repeat (first | (with_reducible first | exact HB.out | apply below_alloc | apply pw_below_drewN | apply below_drew1 | refine below_set ?_ GE263.out | refine below_set ?_ GE274.out) | exact HB.out)) hb); clear HO_8; clear HO_264000; clear HO_275000; clear HO278; clear BK263; clear BK274; clear HB; have HO_8 := n0_; have HO_264000 := n1_; have HO_275000 := n2_; have HO278 := n3_; have BK263 := n4_; have BK274 := n5_; have HB := n6_; clear n0_ n1_ n2_ n3_ n4_ n5_ n6_; (try clear hb); (try clear hb2); (try clear hk); (try clear hi)))
                    go_meet
                    case rel => exact ⟨_, (true), (by first | rfl | (simp; done) | (simp [*]; done)), H', ⟨by have := HJ9.out; first | omega | exact Nat.le_refl _⟩, ⟨by (with_reducible repeat (first | apply Kd.R_alloc | apply Kd.R_drewN | apply Kd.R_drew)); exact Kd.R_mono HO_264000.out (fun _ hk => hk.2.1)⟩, ⟨by (with_reducible repeat (first | apply Kd.R_alloc | apply Kd.R_drewN | apply Kd.R_drew)); exact Kd.R_mono HO_275000.out (fun _ hk => hk.2.1)⟩, ⟨by (with_reducible repeat (first | apply bN | apply bd | apply bA)); exact BK263.out⟩, ⟨by (with_reducible repeat (first | apply bN | apply bd | apply bA)); exact BK274.out⟩, ⟨by repeat (first | (with_reducible first | exact HB.out | apply below_alloc | apply pw_below_drewN | apply below_drew1 | refine below_set ?_ GE263.out | refine below_set ?_ GE274.out) | exact HB.out)⟩⟩
              case rest =>
                clear HC39
                try clear c1
                try clear c2
                try clear p2
                try clear c3
                try clear c3b0
                try clear c3b1
                try clear c4
                try clear c5
                try clear c5b0
                try clear c6
                try clear c15
                try clear c22
                try clear c25
                try clear c26
                try clear c30
                try clear c34
                try clear c36
                try clear c37
                try clear c44
                try clear c44b0
                try clear c46
                try clear c47
                try clear c51
                try clear hcz16_0
                try clear hcz16_1
                try clear hcz16_2
                try clear hcz16_3
                try clear hcz23_0
                try clear hcz23_1
                try clear hcz23_2
                try clear hcz23_3
                try clear hcz27_0
                try clear hcz27_1
                try clear hcz27_2
                try clear hcz27_3
                try clear hcz28_0
                try clear hcz28_1
                try clear hcz28_2
                try clear hcz28_3
                try clear hcz31_0
                try clear hcz31_1
                try clear hcz31_2
                try clear hcz31_3
                try clear hcz32_0
                try clear hcz32_1
                try clear hcz32_2
                try clear hcz32_3
                try clear hcz48_0
                try clear hcz48_1
                try clear hcz48_2
                try clear hcz48_3
                try clear hcz49_0
                try clear hcz49_1
                try clear hcz49_2
                try clear hcz49_3
                try clear hcz52_0
                try clear hcz52_1
                try clear hcz52_2
                try clear hcz52_3
                try clear hcz53_0
                try clear hcz53_1
                try clear hcz53_2
                try clear hcz53_3
                try clear hfz16_0
                try clear hfz16_1
                try clear hfz16_2
                try clear hfz16_3
                try clear hfz23_0
                try clear hfz23_1
                try clear hfz23_2
                try clear hfz23_3
                try clear hfz27_0
                try clear hfz27_1
                try clear hfz27_2
                try clear hfz27_3
                try clear hfz28_0
                try clear hfz28_1
                try clear hfz28_2
                try clear hfz28_3
                try clear hfz31_0
                try clear hfz31_1
                try clear hfz31_2
                try clear hfz31_3
                try clear hfz32_0
                try clear hfz32_1
                try clear hfz32_2
                try clear hfz32_3
                try clear hfz48_0
                try clear hfz48_1
                try clear hfz48_2
                try clear hfz48_3
                try clear hfz49_0
                try clear hfz49_1
                try clear hfz49_2
                try clear hfz49_3
                try clear hfz52_0
                try clear hfz52_1
                try clear hfz52_2
                try clear hfz52_3
                try clear hfz53_0
                try clear hfz53_1
                try clear hfz53_2
                try clear hfz53_3
                try clear p2
                obtain ⟨kq, x68_38, rfl, HA, HJ38, HO_264000, HO_275000, BK263, BK274, HB⟩ := hcut
                cases kq with
                | zero => exact absurd HA.out (by simp [laws_FnExactNewScript.j1])
                | succ kj38 =>
                  have H := HA.out
                  clear HA
                  simp only [laws_FnExactNewScript.j1] at H
                  by_cases c55 : x68_38 = true
                  · subst c55
                    have H1 : (none) = some r := by rw [if_pos rfl] at H; exact H
                    clear H
                    have H := H1
                    clear H1
                    exact absurd H (by simp)
                  · replace c55 := Bool.eq_false_iff.mpr c55
                    subst c55
                    have H1 : ((laws_markSource.f kj38 t267 t270 t271 t272 1).bind fun bt283 => ((laws_heldSource.f kj38 bt283.2 t270 t271 t272 1).bind fun t285 => (if t285 < 0 then (none) else (if t285 = bt283.1 then ((laws_toExtS.f kj38 l1).bind fun t286 => ((impl_NewScript.f kj38 a0 t286).bind fun bt289 => ((laws_eqSource.f kj38 bt289.1 bt289.2.1 bt289.2.2.1 bt289.2.2.2.1 t256 t259 t260 t261).bind fun t297 => (if t297 = true then (laws_FnExactNewScript.j2 kj38 bt283.1 (bt289.2.2.2.2 != t262) bt283.2 t270 t271 t272) else (laws_FnExactNewScript.j2 kj38 bt283.1 true bt283.2 t270 t271 t272))))) else (none))))) = some r := by rw [if_neg (show ¬ (false = true) by decide)] at H; exact H
                    clear H
                    have H := H1
                    clear H1
                    replace H := Option.bind_eq_some_iff.mp H
                    obtain ⟨⟨t283, t284⟩, A560, H⟩ := H
                    replace H : ((laws_heldSource.f kj38 t284 t270 t271 t272 1).bind fun t285 => (if t285 < 0 then (none) else (if t285 = t283 then ((laws_toExtS.f kj38 l1).bind fun t286 => ((impl_NewScript.f kj38 a0 t286).bind fun bt289 => ((laws_eqSource.f kj38 bt289.1 bt289.2.1 bt289.2.2.1 bt289.2.2.2.1 t256 t259 t260 t261).bind fun t297 => (if t297 = true then (laws_FnExactNewScript.j2 kj38 t283 (bt289.2.2.2.2 != t262) t284 t270 t271 t272) else (laws_FnExactNewScript.j2 kj38 t283 true t284 t270 t271 t272))))) else (none)))) = some r := H
                    have A56 := Aside0.mk A560
                    clear A560
                    replace H := Option.bind_eq_some_iff.mp H
                    obtain ⟨t285, A570, H⟩ := H
                    replace H : (if t285 < 0 then (none) else (if t285 = t283 then ((laws_toExtS.f kj38 l1).bind fun t286 => ((impl_NewScript.f kj38 a0 t286).bind fun bt289 => ((laws_eqSource.f kj38 bt289.1 bt289.2.1 bt289.2.2.1 bt289.2.2.2.1 t256 t259 t260 t261).bind fun t297 => (if t297 = true then (laws_FnExactNewScript.j2 kj38 t283 (bt289.2.2.2.2 != t262) t284 t270 t271 t272) else (laws_FnExactNewScript.j2 kj38 t283 true t284 t270 t271 t272))))) else (none))) = some r := H
                    have A57 := Aside0.mk A570
                    clear A570
                    by_cases c58 : t285 < 0
                    · rw [if_pos c58] at H
                      exact absurd H (by simp)
                    · rw [if_neg c58] at H
                      have c58b0 : decide (t285 < 0) = false := decide_eq_false c58
                      clear c58
                      by_cases c59 : t285 = t283
                      · rw [if_pos c59] at H
                        have c59b0 : (t285 == t283) = true := beq_iff_eq.mpr c59
                        have c59b1 : (t285 != t283) = false := bne_eq_false_iff_eq.mpr c59
                        clear c59
                        replace H := Option.bind_eq_some_iff.mp H
                        obtain ⟨t286, A600, H⟩ := H
                        replace H : ((impl_NewScript.f kj38 a0 t286).bind fun bt289 => ((laws_eqSource.f kj38 bt289.1 bt289.2.1 bt289.2.2.1 bt289.2.2.2.1 t256 t259 t260 t261).bind fun t297 => (if t297 = true then (laws_FnExactNewScript.j2 kj38 t283 (bt289.2.2.2.2 != t262) t284 t270 t271 t272) else (laws_FnExactNewScript.j2 kj38 t283 true t284 t270 t271 t272)))) = some r := H
                        have A60 := Aside0.mk A600
                        clear A600
                        replace H := Option.bind_eq_some_iff.mp H
                        obtain ⟨⟨t289, t292, t293, t294, t295⟩, A610, H⟩ := H
                        replace H : ((laws_eqSource.f kj38 t289 t292 t293 t294 t256 t259 t260 t261).bind fun t297 => (if t297 = true then (laws_FnExactNewScript.j2 kj38 t283 (t295 != t262) t284 t270 t271 t272) else (laws_FnExactNewScript.j2 kj38 t283 true t284 t270 t271 t272))) = some r := H
                        have A61 := Aside0.mk A610
                        clear A610
                        have HC62 := Aside0.mk H
                        clear H
                        have hnb63 := NB274_263.out
                        have hnc63 := NB263_274.out
                        have hcz64_0 : wc.cell? ⟨gb274, 0, none⟩ = some (.slice Ao21 t267.length co21) := (blk_cell BK274.out 0).trans rfl
                        have hcz64_1 : wc.cell? ⟨gb274, 1, none⟩ = some (.int .i64 t270) := (blk_cell BK274.out 1).trans rfl
                        have hcz64_2 : wc.cell? ⟨gb274, 2, none⟩ = some (.string t271) := (blk_cell BK274.out 2).trans rfl
                        have hcz64_3 : wc.cell? ⟨gb274, 3, none⟩ = some (.int .i64 t272) := (blk_cell BK274.out 3).trans rfl
                        have hfz64_0 := blk_frozen BK274.out 0
                        have hfz64_1 := blk_frozen BK274.out 1
                        have hfz64_2 := blk_frozen BK274.out 2
                        have hfz64_3 := blk_frozen BK274.out 3
                        go_upto_region 27 with (first | ((with_reducible refine gate_callee (f := 37) rfl ?_); refine goesL_ (some 71) rfl rfl Try.func37 (by kernel_rfl) rfl #[.agg #[.slice Ao21 t267.length co21, .int .i64 t270, .string t271, .int .i64 t272], .int .i64 1] rfl (by (try simp only [List.map_toArray, List.map_cons, List.map_nil]); first | done | rfl | (simp only [List.length_drop, List.length_take]; rfl)) ?_; (with_reducible refine (laws_markSource.calls kj38 (fun k_ => some k_ = (.slice Ao21 t267.length co21 : Value).ownBlock) (.slice Ao21 t267.length co21) t267 t270 t271 t272 1 t283 t284 w _ ?side1 ?side2 A56.out).mono ?_); (case side1 => repeat (first | (with_reducible first | exact HB.out | apply below_alloc | apply pw_below_drewN | apply below_drew1 | refine below_set ?_ GE263.out | refine below_set ?_ GE274.out) | exact HB.out)); (case side2 => exact Kd.R_tight rfl HO_275000.out); rintro e w65 ⟨rfl, hy0, hb, hkp⟩; refine ⟨_, rfl, ?_⟩; have n0_ := Aside0.mk (Kd.R_mono (ok' := fun k_ => some k_ ≠ (.slice Ao21 t267.length co21 : Value).ownBlock) (Kd.R_keptB (HO_264000.out) hkp (fun k_ hk_ hs_ => (hk_) hs_)) (fun k_ hk_ => hk_.1)); have n1_ := Aside0.mk (Kd.R_reok rfl hy0 (fun k_ e_ => HO_275000.out.1 k_ e_)); have n2_ := Aside0.mk (blk_kept (by (with_reducible repeat (first | apply bN | apply bd | apply bA)); exact BK263.out) hkp (fun hs_ => (fun e_ => (Kd.R_ne HO_275000.out BK263.out (by decide)) e_) hs_)); have n3_ := Aside0.mk (blk_kept (by (with_reducible repeat (first | apply bN | apply bd | apply bA)); exact BK274.out) hkp (fun hs_ => (fun e_ => (Kd.R_ne HO_275000.out BK274.out (by decide)) e_) hs_)); have n4_ := Aside0.mk (hb); clear HO_264000; clear HO_275000; clear BK263; clear BK274; clear HB; have HO_264000 := n0_; have HO_275000 := n1_; have BK263 := n2_; have BK274 := n3_; have HB := n4_; clear n0_ n1_ n2_ n3_ n4_; (try clear hb); (try clear hkp); (try clear hy0); have hcz66_0 : w65.cell? ⟨gb274, 0, none⟩ = some (.slice Ao21 t267.length co21) := (blk_cell BK274.out 0).trans rfl; have hcz66_1 : w65.cell? ⟨gb274, 1, none⟩ = some (.int .i64 t270) := (blk_cell BK274.out 1).trans rfl; have hcz66_2 : w65.cell? ⟨gb274, 2, none⟩ = some (.string t271) := (blk_cell BK274.out 2).trans rfl; have hcz66_3 : w65.cell? ⟨gb274, 3, none⟩ = some (.int .i64 t272) := (blk_cell BK274.out 3).trans rfl; have hfz66_0 := blk_frozen BK274.out 0; have hfz66_1 := blk_frozen BK274.out 1; have hfz66_2 := blk_frozen BK274.out 2; have hfz66_3 := blk_frozen BK274.out 3) | ((with_reducible refine gate_callee (f := 38) rfl ?_); refine goesL_ (some 74) rfl rfl Try.func38 (by kernel_rfl) rfl #[.agg #[.slice Ao21 t284.length co21, .int .i64 t270, .string t271, .int .i64 t272], .int .i64 1] rfl (by (try simp only [List.map_toArray, List.map_cons, List.map_nil]); first | done | (rw [show t284.length = t267.length from (Kd.R_reads' HO_275000.out).1.symm] <;> rfl) | rfl | (simp only [List.length_drop, List.length_take]; rfl)) ?_; (with_reducible refine (laws_heldSource.calls kj38 _ _ t284 t270 t271 t272 1 t285 _ ?side1 ?side2 A57.out).mono ?_); (case side1 => repeat (first | exact (Kd.R_reads' HO_275000.out).2.2 | (with_reducible refine Kd.C_alloc ?_ _) | (with_reducible refine Kd.C_drewN ?_ _) | (with_reducible refine Kd.C_drew ?_))); (case side2 => rw [show t284.length = t267.length from (Kd.R_reads' HO_275000.out).1.symm]; exact (Kd.R_reads' HO_275000.out).2.1); rintro e w67 ⟨rfl, hb⟩; refine ⟨_, rfl, ?_⟩; have n0_ := Aside0.mk (Kd.R_below (by (with_reducible repeat (first | apply Kd.R_alloc | apply Kd.R_drewN | apply Kd.R_drew)); exact HO_264000.out) hb); have n1_ := Aside0.mk (Kd.R_below (by (with_reducible repeat (first | apply Kd.R_alloc | apply Kd.R_drewN | apply Kd.R_drew)); exact HO_275000.out) hb); have n2_ := Aside0.mk (blk_below (g := gb263) (o := .cells #[.slice Ao15 t256.length co15, .int .i64 t259, .string t260, .int .i64 t261] 36 (0, 0)) (by (with_reducible repeat (first | apply bN | apply bd | apply bA)); exact BK263.out) hb); have n3_ := Aside0.mk (blk_below (g := gb274) (o := .cells #[.slice Ao21 t267.length co21, .int .i64 t270, .string t271, .int .i64 t272] 36 (0, 0)) (by (with_reducible repeat (first | apply bN | apply bd | apply bA)); exact BK274.out) hb); have n4_ := Aside0.mk (below_step (by repeat (first | (with_reducible first | exact HB.out | apply below_alloc | apply pw_below_drewN | apply below_drew1 | refine below_set ?_ GE263.out | refine below_set ?_ GE274.out) | exact HB.out)) hb); clear HO_264000; clear HO_275000; clear BK263; clear BK274; clear HB; have HO_264000 := n0_; have HO_275000 := n1_; have BK263 := n2_; have BK274 := n3_; have HB := n4_; clear n0_ n1_ n2_ n3_ n4_; (try clear hb); (try clear hb2); (try clear hk); (try clear hi)) | ((with_reducible refine gate_callee (f := 61) rfl ?_); refine goesL_ (some 83) rfl rfl Try.func61 (by kernel_rfl) rfl #[.slice A1 l1.length c1] rfl (by (try simp only [List.map_toArray, List.map_cons, List.map_nil]); first | done | rfl | (simp only [List.length_drop, List.length_take]; rfl)) ?_; (with_reducible refine (laws_toExtS.calls kj38 _ _ l1 t286 _ ?side1 ?side2 A60.out).mono ?_); (case side1 => repeat (first | exact (Kd.C_below HR1.out HB.out) | (with_reducible refine Kd.C_alloc ?_ _) | (with_reducible refine Kd.C_drewN ?_ _) | (with_reducible refine Kd.C_drew ?_))); (case side2 => exact HC1.out); rintro e w68 ⟨v287, rfl, ho0, hb⟩; refine ⟨_, rfl, ?_⟩; have n0_ := Aside0.mk (Kd.R_elder' (by (with_reducible repeat (first | apply Kd.R_alloc | apply Kd.R_drewN | apply Kd.R_drew)); exact HO_264000.out) (Kd.R_base ho0) hb); have n1_ := Aside0.mk (Kd.R_elder' (by (with_reducible repeat (first | apply Kd.R_alloc | apply Kd.R_drewN | apply Kd.R_drew)); exact HO_275000.out) (Kd.R_base ho0) hb); have n2_ := Aside0.mk (Kd.R_lower (Kd.R_new' (Kd.R_new' ho0 (Kd.R_lt (by (with_reducible repeat (first | apply Kd.R_alloc | apply Kd.R_drewN | apply Kd.R_drew)); exact HO_264000.out))) (Kd.R_lt (by (with_reducible repeat (first | apply Kd.R_alloc | apply Kd.R_drewN | apply Kd.R_drew)); exact HO_275000.out))) (below_size (by repeat (first | (with_reducible first | exact HB.out | apply below_alloc | apply pw_below_drewN | apply below_drew1 | refine below_set ?_ GE263.out | refine below_set ?_ GE274.out) | exact HB.out)))); have n3_ := Aside0.mk (blk_below (g := gb263) (o := .cells #[.slice Ao15 t256.length co15, .int .i64 t259, .string t260, .int .i64 t261] 36 (0, 0)) (by (with_reducible repeat (first | apply bN | apply bd | apply bA)); exact BK263.out) hb); have n4_ := Aside0.mk (blk_below (g := gb274) (o := .cells #[.slice Ao21 t267.length co21, .int .i64 t270, .string t271, .int .i64 t272] 36 (0, 0)) (by (with_reducible repeat (first | apply bN | apply bd | apply bA)); exact BK274.out) hb); have n5_ := Aside0.mk (below_step (by repeat (first | (with_reducible first | exact HB.out | apply below_alloc | apply pw_below_drewN | apply below_drew1 | refine below_set ?_ GE263.out | refine below_set ?_ GE274.out) | exact HB.out)) hb); clear HO_264000; clear HO_275000; clear BK263; clear BK274; clear HB; have HO_264000 := n0_; have HO_275000 := n1_; have HO288 := n2_; have BK263 := n3_; have BK274 := n4_; have HB := n5_; clear n0_ n1_ n2_ n3_ n4_ n5_; (try clear hb); (try clear hb2); (try clear hk); (try clear hi); (try clear ho0); obtain ⟨Ao69, co69, eo69⟩ := Kd.R_slice HO288.out; subst eo69) | ((with_reducible refine gate_callee (f := 62) rfl ?_); refine goesL_ (some 84) rfl rfl Try.func62 (by kernel_rfl) rfl #[.string a0, .slice Ao69 t286.length co69] rfl (by (try simp only [List.map_toArray, List.map_cons, List.map_nil]); first | done | rfl | (simp only [List.length_drop, List.length_take]; rfl)) ?_; (with_reducible refine (impl_NewScript.calls kj38 a0 _ _ t286 t289 t292 t293 t294 t295 _ ?side1 ?side2 A61.out).mono ?_); (case side1 => repeat (first | exact (Kd.R_reads' HO288.out).2.2 | (with_reducible refine Kd.C_alloc ?_ _) | (with_reducible refine Kd.C_drewN ?_ _) | (with_reducible refine Kd.C_drew ?_))); (case side2 => exact (Kd.R_reads' HO288.out).2.1); rintro e w70 ⟨v290, rfl, ho0, hb⟩; refine ⟨_, rfl, ?_⟩; have n0_ := Aside0.mk (Kd.R_elder' (by (with_reducible repeat (first | apply Kd.R_alloc | apply Kd.R_drewN | apply Kd.R_drew)); exact HO_264000.out) (Kd.R_base ho0) hb); have n1_ := Aside0.mk (Kd.R_elder' (by (with_reducible repeat (first | apply Kd.R_alloc | apply Kd.R_drewN | apply Kd.R_drew)); exact HO_275000.out) (Kd.R_base ho0) hb); have n2_ := Aside0.mk (Kd.R_elder' (by (with_reducible repeat (first | apply Kd.R_alloc | apply Kd.R_drewN | apply Kd.R_drew)); exact HO288.out) (Kd.R_base ho0) hb); have n3_ := Aside0.mk (Kd.R_lower (Kd.R_new' (Kd.R_new' (Kd.R_new' ho0 (Kd.R_lt (by (with_reducible repeat (first | apply Kd.R_alloc | apply Kd.R_drewN | apply Kd.R_drew)); exact HO_264000.out))) (Kd.R_lt (by (with_reducible repeat (first | apply Kd.R_alloc | apply Kd.R_drewN | apply Kd.R_drew)); exact HO_275000.out))) (Kd.R_lt (by (with_reducible repeat (first | apply Kd.R_alloc | apply Kd.R_drewN | apply Kd.R_drew)); exact HO288.out))) (below_size (by repeat (first | (with_reducible first | exact HB.out | apply below_alloc | apply pw_below_drewN | apply below_drew1 | refine below_set ?_ GE263.out | refine below_set ?_ GE274.out) | exact HB.out)))); have n4_ := Aside0.mk (blk_below (g := gb263) (o := .cells #[.slice Ao15 t256.length co15, .int .i64 t259, .string t260, .int .i64 t261] 36 (0, 0)) (by (with_reducible repeat (first | apply bN | apply bd | apply bA)); exact BK263.out) hb); have n5_ := Aside0.mk (blk_below (g := gb274) (o := .cells #[.slice Ao21 t267.length co21, .int .i64 t270, .string t271, .int .i64 t272] 36 (0, 0)) (by (with_reducible repeat (first | apply bN | apply bd | apply bA)); exact BK274.out) hb); have n6_ := Aside0.mk (below_step (by repeat (first | (with_reducible first | exact HB.out | apply below_alloc | apply pw_below_drewN | apply below_drew1 | refine below_set ?_ GE263.out | refine below_set ?_ GE274.out) | exact HB.out)) hb); clear HO_264000; clear HO_275000; clear HO288; clear BK263; clear BK274; clear HB; have HO_264000 := n0_; have HO_275000 := n1_; have HO288 := n2_; have HO291 := n3_; have BK263 := n4_; have BK274 := n5_; have HB := n6_; clear n0_ n1_ n2_ n3_ n4_ n5_ n6_; (try clear hb); (try clear hb2); (try clear hk); (try clear hi); (try clear ho0)) | ((with_reducible refine gate_dst (N := 14) rfl ?_); refine box_event ?hg (N := 14) ?hd (cs := #[.slice none 0 0, .int .i64 0, .string (⟨#[]⟩ : ByteArray), .int .i64 0]) (t := 36) ?hr ?_; (case hd => rfl); (case hg => rfl); (case hr => first | (go_simp; done) | (go_simp; rfl)); intro gb296 hg w71 hbox hb; have n0_ := Aside0.mk (Kd.R_below (by (with_reducible repeat (first | apply Kd.R_alloc | apply Kd.R_drewN | apply Kd.R_drew)); exact HO_264000.out) hb); have n1_ := Aside0.mk (Kd.R_below (by (with_reducible repeat (first | apply Kd.R_alloc | apply Kd.R_drewN | apply Kd.R_drew)); exact HO_275000.out) hb); have n2_ := Aside0.mk (Kd.R_below (by (with_reducible repeat (first | apply Kd.R_alloc | apply Kd.R_drewN | apply Kd.R_drew)); exact HO288.out) hb); have n3_ := Aside0.mk (Kd.R_below (by (with_reducible repeat (first | apply Kd.R_alloc | apply Kd.R_drewN | apply Kd.R_drew)); exact HO291.out) hb); have n4_ := Aside0.mk (blk_below (g := gb263) (o := .cells #[.slice Ao15 t256.length co15, .int .i64 t259, .string t260, .int .i64 t261] 36 (0, 0)) (by (with_reducible repeat (first | apply bN | apply bd | apply bA)); exact BK263.out) hb); have n5_ := Aside0.mk (blk_below (g := gb274) (o := .cells #[.slice Ao21 t267.length co21, .int .i64 t270, .string t271, .int .i64 t272] 36 (0, 0)) (by (with_reducible repeat (first | apply bN | apply bd | apply bA)); exact BK274.out) hb); have n6_ := Aside0.mk (below_step (by repeat (first | (with_reducible first | exact HB.out | apply below_alloc | apply pw_below_drewN | apply below_drew1 | refine below_set ?_ GE263.out | refine below_set ?_ GE274.out) | exact HB.out)) hb); have n7_ := Aside0.mk (hbox); have n8_ := Aside0.mk ((by rw [hg]; exact (below_size (by repeat (first | (with_reducible first | exact HB.out | apply below_alloc | apply pw_below_drewN | apply below_drew1 | refine below_set ?_ GE263.out | refine below_set ?_ GE274.out) | exact HB.out))) : w.heap.size ≤ gb296)); have n9_ := Aside0.mk ((by rw [hg]; exact (below_size (by repeat (first | (with_reducible first | exact HB.out | apply below_alloc | apply pw_below_drewN | apply below_drew1 | refine below_set ?_ GE263.out | refine below_set ?_ GE274.out) | exact HB.out))) : w.heap.size ≤ gb296)); have n10_ := Aside0.mk ((by rw [hg]; exact Nat.ne_of_lt (blk_lt (g := gb263) (o := .cells #[.slice Ao15 t256.length co15, .int .i64 t259, .string t260, .int .i64 t261] 36 (0, 0)) (by (with_reducible repeat (first | apply bN | apply bd | apply bA)); exact BK263.out)) : gb263 ≠ gb296)); have n11_ := Aside0.mk ((by rw [hg]; exact Nat.ne_of_gt (blk_lt (g := gb263) (o := .cells #[.slice Ao15 t256.length co15, .int .i64 t259, .string t260, .int .i64 t261] 36 (0, 0)) (by (with_reducible repeat (first | apply bN | apply bd | apply bA)); exact BK263.out)) : gb296 ≠ gb263)); have n12_ := Aside0.mk ((by rw [hg]; exact Nat.ne_of_lt (blk_lt (g := gb274) (o := .cells #[.slice Ao21 t267.length co21, .int .i64 t270, .string t271, .int .i64 t272] 36 (0, 0)) (by (with_reducible repeat (first | apply bN | apply bd | apply bA)); exact BK274.out)) : gb274 ≠ gb296)); have n13_ := Aside0.mk ((by rw [hg]; exact Nat.ne_of_gt (blk_lt (g := gb274) (o := .cells #[.slice Ao21 t267.length co21, .int .i64 t270, .string t271, .int .i64 t272] 36 (0, 0)) (by (with_reducible repeat (first | apply bN | apply bd | apply bA)); exact BK274.out)) : gb296 ≠ gb274)); clear HO_264000; clear HO_275000; clear HO288; clear HO291; clear BK263; clear BK274; clear HB; have HO_264000 := n0_; have HO_275000 := n1_; have HO288 := n2_; have HO291 := n3_; have BK263 := n4_; have BK274 := n5_; have HB := n6_; have BK296 := n7_; have GW296 := n8_; have GE296 := n9_; have NB263_296 := n10_; have NB296_263 := n11_; have NB274_296 := n12_; have NB296_274 := n13_; clear n0_ n1_ n2_ n3_ n4_ n5_ n6_ n7_ n8_ n9_ n10_ n11_ n12_ n13_; clear hb hbox hg; obtain ⟨Ao72, co72, eo72⟩ := Kd.R_slice HO291.out; subst eo72; have hnb73 := NB296_263.out; have hnc73 := NB263_296.out; have hnb74 := NB296_274.out; have hnc74 := NB274_296.out; have hcz75_0 : w71.cell? ⟨gb296, 0, none⟩ = some (.slice none 0 0) := (blk_cell BK296.out 0).trans rfl; have hcz75_1 : w71.cell? ⟨gb296, 1, none⟩ = some (.int .i64 0) := (blk_cell BK296.out 1).trans rfl; have hcz75_2 : w71.cell? ⟨gb296, 2, none⟩ = some (.string (⟨#[]⟩ : ByteArray)) := (blk_cell BK296.out 2).trans rfl; have hcz75_3 : w71.cell? ⟨gb296, 3, none⟩ = some (.int .i64 0) := (blk_cell BK296.out 3).trans rfl; have hfz75_0 := blk_frozen BK296.out 0; have hfz75_1 := blk_frozen BK296.out 1; have hfz75_2 := blk_frozen BK296.out 2; have hfz75_3 := blk_frozen BK296.out 3))
                        (try simp only [Act.put, List.setIfInBounds_toArray, List.set_cons_zero, List.set_cons_succ])
                        go_cut [95] (fun v95 wc => ∃ (kq : Nat) (x95_61 : Bool), v95 = .bool x95_61 ∧ Aside0 (laws_FnExactNewScript.j2 kq t283 x95_61 t284 t270 t271 t272 = some r) ∧ Aside0 (kq ≤ kj38) ∧ Aside0 (Kd.R k79 79 wc w.heap.size (fun k_ => some k_ ≠ ((.slice Ao21 t267.length co21) : Value).ownBlock ∧ some k_ ≠ ((.slice Ao72 t289.length co72) : Value).ownBlock) (.slice Ao15 t256.length co15) t256) ∧ Aside0 (Kd.R k79 79 wc w.heap.size (fun k_ => some k_ ≠ ((.slice Ao15 t256.length co15) : Value).ownBlock ∧ some k_ ≠ ((.slice Ao72 t289.length co72) : Value).ownBlock) (.slice Ao21 t267.length co21) t284) ∧ Aside0 (Kd.R k79 79 wc w.heap.size (fun k_ => some k_ ≠ ((.slice Ao15 t256.length co15) : Value).ownBlock ∧ some k_ ≠ ((.slice Ao21 t267.length co21) : Value).ownBlock) (.slice Ao72 t289.length co72) t289) ∧ Aside0 (wc.heap[gb263]? = some (.cells #[(.slice Ao15 t256.length co15), .int .i64 t259, .string t260, .int .i64 t261] 36 (0, 0))) ∧ Aside0 (wc.heap[gb274]? = some (.cells #[(.slice Ao21 t267.length co21), .int .i64 t270, .string t271, .int .i64 t272] 36 (0, 0))) ∧ Aside0 (wc.heap[gb296]? = some (.cells #[(.slice Ao72 t289.length co72), .int .i64 t292, .string t293, .int .i64 t294] 36 (0, 0))) ∧ Aside0 (Below w.heap.size w wc))
                        case first =>
                          have H := HC62.out
                          clear HC62
                          replace H := Option.bind_eq_some_iff.mp H
                          obtain ⟨t297, A760, H⟩ := H
                          replace H : (if t297 = true then (laws_FnExactNewScript.j2 kj38 t283 (t295 != t262) t284 t270 t271 t272) else (laws_FnExactNewScript.j2 kj38 t283 true t284 t270 t271 t272)) = some r := H
                          have A76 := Aside0.mk A760
                          clear A760
                          by_cases c77 : t297 = true
                          · subst c77
                            have H1 : (laws_FnExactNewScript.j2 kj38 t283 (t295 != t262) t284 t270 t271 t272) = some r := by rw [if_pos rfl] at H; exact H
                            clear H
                            have H := H1
                            clear H1
                            have H' := Aside0.mk H
                            clear H
                            have hnb78 := NB296_263.out
                            have hnc78 := NB263_296.out
                            have hnb79 := NB296_274.out
                            have hnc79 := NB274_296.out
                            have hcz80_0 : w71.cell? ⟨gb296, 0, none⟩ = some (.slice none 0 0) := (blk_cell BK296.out 0).trans rfl
                            have hcz80_1 : w71.cell? ⟨gb296, 1, none⟩ = some (.int .i64 0) := (blk_cell BK296.out 1).trans rfl
                            have hcz80_2 : w71.cell? ⟨gb296, 2, none⟩ = some (.string (⟨#[]⟩ : ByteArray)) := (blk_cell BK296.out 2).trans rfl
                            have hcz80_3 : w71.cell? ⟨gb296, 3, none⟩ = some (.int .i64 0) := (blk_cell BK296.out 3).trans rfl
                            have hfz80_0 := blk_frozen BK296.out 0
                            have hfz80_1 := blk_frozen BK296.out 1
                            have hfz80_2 := blk_frozen BK296.out 2
                            have hfz80_3 := blk_frozen BK296.out 3
                            have hnb81 := NB263_274.out
                            have hnc81 := NB274_263.out
                            have hcz82_0 : w71.cell? ⟨gb263, 0, none⟩ = some (.slice Ao15 t256.length co15) := (blk_cell BK263.out 0).trans rfl
                            have hcz82_1 : w71.cell? ⟨gb263, 1, none⟩ = some (.int .i64 t259) := (blk_cell BK263.out 1).trans rfl
                            have hcz82_2 : w71.cell? ⟨gb263, 2, none⟩ = some (.string t260) := (blk_cell BK263.out 2).trans rfl
                            have hcz82_3 : w71.cell? ⟨gb263, 3, none⟩ = some (.int .i64 t261) := (blk_cell BK263.out 3).trans rfl
                            have hfz82_0 := blk_frozen BK263.out 0
                            have hfz82_1 := blk_frozen BK263.out 1
                            have hfz82_2 := blk_frozen BK263.out 2
                            have hfz82_3 := blk_frozen BK263.out 3
                            go_wp2_with (first | ((with_reducible refine gate_callee (f := 36) rfl ?_); refine goesL_ (some 89) rfl rfl Try.func36 (by kernel_rfl) rfl #[.agg #[.slice Ao72 t289.length co72, .int .i64 t292, .string t293, .int .i64 t294], .agg #[.slice Ao15 t256.length co15, .int .i64 t259, .string t260, .int .i64 t261]] rfl (by (try simp only [List.map_toArray, List.map_cons, List.map_nil]); first | done | rfl | (simp only [List.length_drop, List.length_take]; rfl)) ?_; (with_reducible refine (laws_eqSource.calls kj38 _ _ t289 t292 t293 t294 _ _ t256 t259 t260 t261 true _ ?side1 ?side2 ?side3 ?side4 A76.out).mono ?_); (case side1 => refine (Kd.R_reads' (e := 79) (base := w.heap.size) (ok := fun k_ => (((True ∧ some k_ ≠ (.slice Ao15 t256.length co15 : Value).ownBlock) ∧ some k_ ≠ (.slice Ao21 t267.length co21 : Value).ownBlock) ∧ some k_ ≠ (.slice Ao69 t286.length co69 : Value).ownBlock)) (n := t289.length) (c := co72) ?_).2.2; exact (by (with_reducible repeat (first | apply Kd.R_alloc | apply Kd.R_drewN | apply Kd.R_drew)); exact (Kd.R_mono (Kd.R_far (p := ⟨gb296, 3, none⟩) (Kd.R_far (p := ⟨gb296, 2, none⟩) (Kd.R_far (p := ⟨gb296, 1, none⟩) (Kd.R_far (p := ⟨gb296, 0, none⟩) (Kd.R_types HO291.out BK296.out (by decide)) (fun _ hk => hk.2) (.slice Ao72 t289.length co72)) (fun _ hk => hk.2) (.int .i64 t292)) (fun _ hk => hk.2) (.string t293)) (fun _ hk => hk.2) (.int .i64 t294)) (fun _ h_ => h_.1)))); (case side2 => exact (Kd.R_reads' HO291.out).2.1); (case side3 => refine (Kd.R_reads' (e := 79) (base := w.heap.size) (ok := fun k_ => ((some k_ ≠ (.slice Ao21 t267.length co21 : Value).ownBlock ∧ some k_ ≠ (.slice Ao69 t286.length co69 : Value).ownBlock) ∧ some k_ ≠ (.slice Ao72 t289.length co72 : Value).ownBlock)) (n := t256.length) (c := co15) ?_).2.2; exact (by (with_reducible repeat (first | apply Kd.R_alloc | apply Kd.R_drewN | apply Kd.R_drew)); exact (Kd.R_mono (Kd.R_far (p := ⟨gb296, 3, none⟩) (Kd.R_far (p := ⟨gb296, 2, none⟩) (Kd.R_far (p := ⟨gb296, 1, none⟩) (Kd.R_far (p := ⟨gb296, 0, none⟩) (Kd.R_types HO_264000.out BK296.out (by decide)) (fun _ hk => hk.2) (.slice Ao72 t289.length co72)) (fun _ hk => hk.2) (.int .i64 t292)) (fun _ hk => hk.2) (.string t293)) (fun _ hk => hk.2) (.int .i64 t294)) (fun _ h_ => h_.1)))); (case side4 => exact (Kd.R_reads' HO_264000.out).2.1); rintro e w83 ⟨rfl, hb⟩; refine ⟨_, rfl, ?_⟩; have n0_ := Aside0.mk (Kd.R_below (by (with_reducible repeat (first | apply Kd.R_alloc | apply Kd.R_drewN | apply Kd.R_drew)); exact (Kd.R_mono (Kd.R_far (p := ⟨gb296, 3, none⟩) (Kd.R_far (p := ⟨gb296, 2, none⟩) (Kd.R_far (p := ⟨gb296, 1, none⟩) (Kd.R_far (p := ⟨gb296, 0, none⟩) (Kd.R_types HO_264000.out BK296.out (by decide)) (fun _ hk => hk.2) (.slice Ao72 t289.length co72)) (fun _ hk => hk.2) (.int .i64 t292)) (fun _ hk => hk.2) (.string t293)) (fun _ hk => hk.2) (.int .i64 t294)) (fun _ h_ => h_.1))) hb); have n1_ := Aside0.mk (Kd.R_below (by (with_reducible repeat (first | apply Kd.R_alloc | apply Kd.R_drewN | apply Kd.R_drew)); exact (Kd.R_mono (Kd.R_far (p := ⟨gb296, 3, none⟩) (Kd.R_far (p := ⟨gb296, 2, none⟩) (Kd.R_far (p := ⟨gb296, 1, none⟩) (Kd.R_far (p := ⟨gb296, 0, none⟩) (Kd.R_types HO_275000.out BK296.out (by decide)) (fun _ hk => hk.2) (.slice Ao72 t289.length co72)) (fun _ hk => hk.2) (.int .i64 t292)) (fun _ hk => hk.2) (.string t293)) (fun _ hk => hk.2) (.int .i64 t294)) (fun _ h_ => h_.1))) hb); have n2_ := Aside0.mk (Kd.R_below (by (with_reducible repeat (first | apply Kd.R_alloc | apply Kd.R_drewN | apply Kd.R_drew)); exact (Kd.R_mono (Kd.R_far (p := ⟨gb296, 3, none⟩) (Kd.R_far (p := ⟨gb296, 2, none⟩) (Kd.R_far (p := ⟨gb296, 1, none⟩) (Kd.R_far (p := ⟨gb296, 0, none⟩) (Kd.R_types HO288.out BK296.out (by decide)) (fun _ hk => hk.2) (.slice Ao72 t289.length co72)) (fun _ hk => hk.2) (.int .i64 t292)) (fun _ hk => hk.2) (.string t293)) (fun _ hk => hk.2) (.int .i64 t294)) (fun _ h_ => h_.1))) hb); have n3_ := Aside0.mk (Kd.R_below (by (with_reducible repeat (first | apply Kd.R_alloc | apply Kd.R_drewN | apply Kd.R_drew)); exact (Kd.R_mono (Kd.R_far (p := ⟨gb296, 3, none⟩) (Kd.R_far (p := ⟨gb296, 2, none⟩) (Kd.R_far (p := ⟨gb296, 1, none⟩) (Kd.R_far (p := ⟨gb296, 0, none⟩) (Kd.R_types HO291.out BK296.out (by decide)) (fun _ hk => hk.2) (.slice Ao72 t289.length co72)) (fun _ hk => hk.2) (.int .i64 t292)) (fun _ hk => hk.2) (.string t293)) (fun _ hk => hk.2) (.int .i64 t294)) (fun _ h_ => h_.1))) hb); have n4_ := Aside0.mk (blk_below (g := gb263) (o := .cells #[.slice Ao15 t256.length co15, .int .i64 t259, .string t260, .int .i64 t261] 36 (0, 0)) (by (with_reducible repeat (first | apply bN | apply bd | apply bA)); refine blk_far ?_ NB263_296.out _; (with_reducible repeat (first | apply bN | apply bd | apply bA)); refine blk_far ?_ NB263_296.out _; (with_reducible repeat (first | apply bN | apply bd | apply bA)); refine blk_far ?_ NB263_296.out _; (with_reducible repeat (first | apply bN | apply bd | apply bA)); refine blk_far ?_ NB263_296.out _; (with_reducible repeat (first | apply bN | apply bd | apply bA)); exact BK263.out) hb); have n5_ := Aside0.mk (blk_below (g := gb274) (o := .cells #[.slice Ao21 t267.length co21, .int .i64 t270, .string t271, .int .i64 t272] 36 (0, 0)) (by (with_reducible repeat (first | apply bN | apply bd | apply bA)); refine blk_far ?_ NB274_296.out _; (with_reducible repeat (first | apply bN | apply bd | apply bA)); refine blk_far ?_ NB274_296.out _; (with_reducible repeat (first | apply bN | apply bd | apply bA)); refine blk_far ?_ NB274_296.out _; (with_reducible repeat (first | apply bN | apply bd | apply bA)); refine blk_far ?_ NB274_296.out _; (with_reducible repeat (first | apply bN | apply bd | apply bA)); exact BK274.out) hb); have n6_ := Aside0.mk (blk_below (g := gb296) (o := .cells #[.slice Ao72 t289.length co72, .int .i64 t292, .string t293, .int .i64 t294] 36 (0, 0)) (by (with_reducible repeat (first | apply bN | apply bd | apply bA)); refine blk_put (cs := #[.slice Ao72 t289.length co72, .int .i64 t292, .string t293, .int .i64 0]) ?_ 3 _ rfl; (with_reducible repeat (first | apply bN | apply bd | apply bA)); refine blk_put (cs := #[.slice Ao72 t289.length co72, .int .i64 t292, .string (⟨#[]⟩ : ByteArray), .int .i64 0]) ?_ 2 _ rfl; (with_reducible repeat (first | apply bN | apply bd | apply bA)); refine blk_put (cs := #[.slice Ao72 t289.length co72, .int .i64 0, .string (⟨#[]⟩ : ByteArray), .int .i64 0]) ?_ 1 _ rfl; (with_reducible repeat (first | apply bN | apply bd | apply bA)); refine blk_put (cs := #[.slice none 0 0, .int .i64 0, .string (⟨#[]⟩ : ByteArray), .int .i64 0]) ?_ 0 _ rfl; (with_reducible repeat (first | apply bN | apply bd | apply bA)); exact BK296.out) hb); have n7_ := Aside0.mk (below_step (by repeat (first | (with_reducible first | exact HB.out | apply below_alloc | apply pw_below_drewN | apply below_drew1 | refine below_set ?_ GE263.out | refine below_set ?_ GE274.out | refine below_set ?_ GE296.out) | exact HB.out)) hb); clear HO_264000; clear HO_275000; clear HO288; clear HO291; clear BK263; clear BK274; clear BK296; clear HB; have HO_264000 := n0_; have HO_275000 := n1_; have HO288 := n2_; have HO291 := n3_; have BK263 := n4_; have BK274 := n5_; have BK296 := n6_; have HB := n7_; clear n0_ n1_ n2_ n3_ n4_ n5_ n6_ n7_; (try clear hb); (try clear hb2); (try clear hk); (try clear hi)))
                            go_meet
                            case rel => exact ⟨_, ((t295 != t262)), (by first | rfl | (simp; done) | (simp [*]; done)), H', ⟨by have := HJ9.out; have := HJ38.out; first | omega | exact Nat.le_refl _⟩, ⟨by (with_reducible repeat (first | apply Kd.R_alloc | apply Kd.R_drewN | apply Kd.R_drew)); exact Kd.R_mono HO_264000.out (fun _ hk => ⟨hk.1.1, hk.2⟩)⟩, ⟨by (with_reducible repeat (first | apply Kd.R_alloc | apply Kd.R_drewN | apply Kd.R_drew)); exact Kd.R_mono HO_275000.out (fun _ hk => ⟨hk.1.1, hk.2⟩)⟩, ⟨by (with_reducible repeat (first | apply Kd.R_alloc | apply Kd.R_drewN | apply Kd.R_drew)); exact Kd.R_mono HO291.out (fun _ hk => ⟨hk.1.1.2, hk.1.2⟩)⟩, ⟨by (with_reducible repeat (first | apply bN | apply bd | apply bA)); exact BK263.out⟩, ⟨by (with_reducible repeat (first | apply bN | apply bd | apply bA)); exact BK274.out⟩, ⟨by (with_reducible repeat (first | apply bN | apply bd | apply bA)); exact BK296.out⟩, ⟨by repeat (first | (with_reducible first | exact HB.out | apply below_alloc | apply pw_below_drewN | apply below_drew1 | refine below_set ?_ GE263.out | refine below_set ?_ GE274.out | refine below_set ?_ GE296.out) | exact HB.out)⟩⟩
                          · replace c77 := Bool.eq_false_iff.mpr c77
                            subst c77
                            have H1 : (laws_FnExactNewScript.j2 kj38 t283 true t284 t270 t271 t272) = some r := by rw [if_neg (show ¬ (false = true) by decide)] at H; exact H
                            clear H
                            have H := H1
                            clear H1
                            have H' := Aside0.mk H
                            clear H
                            have hnb84 := NB296_263.out
                            have hnc84 := NB263_296.out
                            have hnb85 := NB296_274.out
                            have hnc85 := NB274_296.out
                            have hcz86_0 : w71.cell? ⟨gb296, 0, none⟩ = some (.slice none 0 0) := (blk_cell BK296.out 0).trans rfl
                            have hcz86_1 : w71.cell? ⟨gb296, 1, none⟩ = some (.int .i64 0) := (blk_cell BK296.out 1).trans rfl
                            have hcz86_2 : w71.cell? ⟨gb296, 2, none⟩ = some (.string (⟨#[]⟩ : ByteArray)) := (blk_cell BK296.out 2).trans rfl
                            have hcz86_3 : w71.cell? ⟨gb296, 3, none⟩ = some (.int .i64 0) := (blk_cell BK296.out 3).trans rfl
                            have hfz86_0 := blk_frozen BK296.out 0
                            have hfz86_1 := blk_frozen BK296.out 1
                            have hfz86_2 := blk_frozen BK296.out 2
                            have hfz86_3 := blk_frozen BK296.out 3
                            have hnb87 := NB263_274.out
                            have hnc87 := NB274_263.out
                            have hcz88_0 : w71.cell? ⟨gb263, 0, none⟩ = some (.slice Ao15 t256.length co15) := (blk_cell BK263.out 0).trans rfl
                            have hcz88_1 : w71.cell? ⟨gb263, 1, none⟩ = some (.int .i64 t259) := (blk_cell BK263.out 1).trans rfl
                            have hcz88_2 : w71.cell? ⟨gb263, 2, none⟩ = some (.string t260) := (blk_cell BK263.out 2).trans rfl
                            have hcz88_3 : w71.cell? ⟨gb263, 3, none⟩ = some (.int .i64 t261) := (blk_cell BK263.out 3).trans rfl
                            have hfz88_0 := blk_frozen BK263.out 0
                            have hfz88_1 := blk_frozen BK263.out 1
                            have hfz88_2 := blk_frozen BK263.out 2
                            have hfz88_3 := blk_frozen BK263.out 3
                            go_wp2_with (first | ((with_reducible refine gate_callee (f := 36) rfl ?_); refine goesL_ (some 89) rfl rfl Try.func36 (by kernel_rfl) rfl #[.agg #[.slice Ao72 t289.length co72, .int .i64 t292, .string t293, .int .i64 t294], .agg #[.slice Ao15 t256.length co15, .int .i64 t259, .string t260, .int .i64 t261]] rfl (by (try simp only [List.map_toArray, List.map_cons, List.map_nil]); first | done | rfl | (simp only [List.length_drop, List.length_take]; rfl)) ?_; (with_reducible refine (laws_eqSource.calls kj38 _ _ t289 t292 t293 t294 _ _ t256 t259 t260 t261 false _ ?side1 ?side2 ?side3 ?side4 A76.out).mono ?_); (case side1 => refine (Kd.R_reads' (e := 79) (base := w.heap.size) (ok := fun k_ => (((True ∧ some k_ ≠ (.slice Ao15 t256.length co15 : Value).ownBlock) ∧ some k_ ≠ (.slice Ao21 t267.length co21 : Value).ownBlock) ∧ some k_ ≠ (.slice Ao69 t286.length co69 : Value).ownBlock)) (n := t289.length) (c := co72) ?_).2.2; exact (by (with_reducible repeat (first | apply Kd.R_alloc | apply Kd.R_drewN | apply Kd.R_drew)); exact (Kd.R_mono (Kd.R_far (p := ⟨gb296, 3, none⟩) (Kd.R_far (p := ⟨gb296, 2, none⟩) (Kd.R_far (p := ⟨gb296, 1, none⟩) (Kd.R_far (p := ⟨gb296, 0, none⟩) (Kd.R_types HO291.out BK296.out (by decide)) (fun _ hk => hk.2) (.slice Ao72 t289.length co72)) (fun _ hk => hk.2) (.int .i64 t292)) (fun _ hk => hk.2) (.string t293)) (fun _ hk => hk.2) (.int .i64 t294)) (fun _ h_ => h_.1)))); (case side2 => exact (Kd.R_reads' HO291.out).2.1); (case side3 => refine (Kd.R_reads' (e := 79) (base := w.heap.size) (ok := fun k_ => ((some k_ ≠ (.slice Ao21 t267.length co21 : Value).ownBlock ∧ some k_ ≠ (.slice Ao69 t286.length co69 : Value).ownBlock) ∧ some k_ ≠ (.slice Ao72 t289.length co72 : Value).ownBlock)) (n := t256.length) (c := co15) ?_).2.2; exact (by (with_reducible repeat (first | apply Kd.R_alloc | apply Kd.R_drewN | apply Kd.R_drew)); exact (Kd.R_mono (Kd.R_far (p := ⟨gb296, 3, none⟩) (Kd.R_far (p := ⟨gb296, 2, none⟩) (Kd.R_far (p := ⟨gb296, 1, none⟩) (Kd.R_far (p := ⟨gb296, 0, none⟩) (Kd.R_types HO_264000.out BK296.out (by decide)) (fun _ hk => hk.2) (.slice Ao72 t289.length co72)) (fun _ hk => hk.2) (.int .i64 t292)) (fun _ hk => hk.2) (.string t293)) (fun _ hk => hk.2) (.int .i64 t294)) (fun _ h_ => h_.1)))); (case side4 => exact (Kd.R_reads' HO_264000.out).2.1); rintro e w89 ⟨rfl, hb⟩; refine ⟨_, rfl, ?_⟩; have n0_ := Aside0.mk (Kd.R_below (by (with_reducible repeat (first | apply Kd.R_alloc | apply Kd.R_drewN | apply Kd.R_drew)); exact (Kd.R_mono (Kd.R_far (p := ⟨gb296, 3, none⟩) (Kd.R_far (p := ⟨gb296, 2, none⟩) (Kd.R_far (p := ⟨gb296, 1, none⟩) (Kd.R_far (p := ⟨gb296, 0, none⟩) (Kd.R_types HO_264000.out BK296.out (by decide)) (fun _ hk => hk.2) (.slice Ao72 t289.length co72)) (fun _ hk => hk.2) (.int .i64 t292)) (fun _ hk => hk.2) (.string t293)) (fun _ hk => hk.2) (.int .i64 t294)) (fun _ h_ => h_.1))) hb); have n1_ := Aside0.mk (Kd.R_below (by (with_reducible repeat (first | apply Kd.R_alloc | apply Kd.R_drewN | apply Kd.R_drew)); exact (Kd.R_mono (Kd.R_far (p := ⟨gb296, 3, none⟩) (Kd.R_far (p := ⟨gb296, 2, none⟩) (Kd.R_far (p := ⟨gb296, 1, none⟩) (Kd.R_far (p := ⟨gb296, 0, none⟩) (Kd.R_types HO_275000.out BK296.out (by decide)) (fun _ hk => hk.2) (.slice Ao72 t289.length co72)) (fun _ hk => hk.2) (.int .i64 t292)) (fun _ hk => hk.2) (.string t293)) (fun _ hk => hk.2) (.int .i64 t294)) (fun _ h_ => h_.1))) hb); have n2_ := Aside0.mk (Kd.R_below (by (with_reducible repeat (first | apply Kd.R_alloc | apply Kd.R_drewN | apply Kd.R_drew)); exact (Kd.R_mono (Kd.R_far (p := ⟨gb296, 3, none⟩) (Kd.R_far (p := ⟨gb296, 2, none⟩) (Kd.R_far (p := ⟨gb296, 1, none⟩) (Kd.R_far (p := ⟨gb296, 0, none⟩) (Kd.R_types HO288.out BK296.out (by decide)) (fun _ hk => hk.2) (.slice Ao72 t289.length co72)) (fun _ hk => hk.2) (.int .i64 t292)) (fun _ hk => hk.2) (.string t293)) (fun _ hk => hk.2) (.int .i64 t294)) (fun _ h_ => h_.1))) hb); have n3_ := Aside0.mk (Kd.R_below (by (with_reducible repeat (first | apply Kd.R_alloc | apply Kd.R_drewN | apply Kd.R_drew)); exact (Kd.R_mono (Kd.R_far (p := ⟨gb296, 3, none⟩) (Kd.R_far (p := ⟨gb296, 2, none⟩) (Kd.R_far (p := ⟨gb296, 1, none⟩) (Kd.R_far (p := ⟨gb296, 0, none⟩) (Kd.R_types HO291.out BK296.out (by decide)) (fun _ hk => hk.2) (.slice Ao72 t289.length co72)) (fun _ hk => hk.2) (.int .i64 t292)) (fun _ hk => hk.2) (.string t293)) (fun _ hk => hk.2) (.int .i64 t294)) (fun _ h_ => h_.1))) hb); have n4_ := Aside0.mk (blk_below (g := gb263) (o := .cells #[.slice Ao15 t256.length co15, .int .i64 t259, .string t260, .int .i64 t261] 36 (0, 0)) (by (with_reducible repeat (first | apply bN | apply bd | apply bA)); refine blk_far ?_ NB263_296.out _; (with_reducible repeat (first | apply bN | apply bd | apply bA)); refine blk_far ?_ NB263_296.out _; (with_reducible repeat (first | apply bN | apply bd | apply bA)); refine blk_far ?_ NB263_296.out _; (with_reducible repeat (first | apply bN | apply bd | apply bA)); refine blk_far ?_ NB263_296.out _; (with_reducible repeat (first | apply bN | apply bd | apply bA)); exact BK263.out) hb); have n5_ := Aside0.mk (blk_below (g := gb274) (o := .cells #[.slice Ao21 t267.length co21, .int .i64 t270, .string t271, .int .i64 t272] 36 (0, 0)) (by (with_reducible repeat (first | apply bN | apply bd | apply bA)); refine blk_far ?_ NB274_296.out _; (with_reducible repeat (first | apply bN | apply bd | apply bA)); refine blk_far ?_ NB274_296.out _; (with_reducible repeat (first | apply bN | apply bd | apply bA)); refine blk_far ?_ NB274_296.out _; (with_reducible repeat (first | apply bN | apply bd | apply bA)); refine blk_far ?_ NB274_296.out _; (with_reducible repeat (first | apply bN | apply bd | apply bA)); exact BK274.out) hb); have n6_ := Aside0.mk (blk_below (g := gb296) (o := .cells #[.slice Ao72 t289.length co72, .int .i64 t292, .string t293, .int .i64 t294] 36 (0, 0)) (by (with_reducible repeat (first | apply bN | apply bd | apply bA)); refine blk_put (cs := #[.slice Ao72 t289.length co72, .int .i64 t292, .string t293, .int .i64 0]) ?_ 3 _ rfl; (with_reducible repeat (first | apply bN | apply bd | apply bA)); refine blk_put (cs := #[.slice Ao72 t289.length co72, .int .i64 t292, .string (⟨#[]⟩ : ByteArray), .int .i64 0]) ?_ 2 _ rfl; (with_reducible repeat (first | apply bN | apply bd | apply bA)); refine blk_put (cs := #[.slice Ao72 t289.length co72, .int .i64 0, .string (⟨#[]⟩ : ByteArray), .int .i64 0]) ?_ 1 _ rfl; (with_reducible repeat (first | apply bN | apply bd | apply bA)); refine blk_put (cs := #[.slice none 0 0, .int .i64 0, .string (⟨#[]⟩ : ByteArray), .int .i64 0]) ?_ 0 _ rfl; (with_reducible repeat (first | apply bN | apply bd | apply bA)); exact BK296.out) hb); have n7_ := Aside0.mk (below_step (by repeat (first | (with_reducible first | exact HB.out | apply below_alloc | apply pw_below_drewN | apply below_drew1 | refine below_set ?_ GE263.out | refine below_set ?_ GE274.out | refine below_set ?_ GE296.out) | exact HB.out)) hb); clear HO_264000; clear HO_275000; clear HO288; clear HO291; clear BK263; clear BK274; clear BK296; clear HB; have HO_264000 := n0_; have HO_275000 := n1_; have HO288 := n2_; have HO291 := n3_; have BK263 := n4_; have BK274 := n5_; have BK296 := n6_; have HB := n7_; clear n0_ n1_ n2_ n3_ n4_ n5_ n6_ n7_; (try clear hb); (try clear hb2); (try clear hk); (try clear hi)))
                            go_meet
                            case rel => exact ⟨_, (true), (by first | rfl | (simp; done) | (simp [*]; done)), H', ⟨by have := HJ9.out; have := HJ38.out; first | omega | exact Nat.le_refl _⟩, ⟨by (with_reducible repeat (first | apply Kd.R_alloc | apply Kd.R_drewN | apply Kd.R_drew)); exact Kd.R_mono HO_264000.out (fun _ hk => ⟨hk.1.1, hk.2⟩)⟩, ⟨by (with_reducible repeat (first | apply Kd.R_alloc | apply Kd.R_drewN | apply Kd.R_drew)); exact Kd.R_mono HO_275000.out (fun _ hk => ⟨hk.1.1, hk.2⟩)⟩, ⟨by (with_reducible repeat (first | apply Kd.R_alloc | apply Kd.R_drewN | apply Kd.R_drew)); exact Kd.R_mono HO291.out (fun _ hk => ⟨hk.1.1.2, hk.1.2⟩)⟩, ⟨by (with_reducible repeat (first | apply bN | apply bd | apply bA)); exact BK263.out⟩, ⟨by (with_reducible repeat (first | apply bN | apply bd | apply bA)); exact BK274.out⟩, ⟨by (with_reducible repeat (first | apply bN | apply bd | apply bA)); exact BK296.out⟩, ⟨by repeat (first | (with_reducible first | exact HB.out | apply below_alloc | apply pw_below_drewN | apply below_drew1 | refine below_set ?_ GE263.out | refine below_set ?_ GE274.out | refine below_set ?_ GE296.out) | exact HB.out)⟩⟩
                        case rest =>
                          clear HC62
                          try clear c1
                          try clear c2
                          try clear p2
                          try clear c3
                          try clear c3b0
                          try clear c3b1
                          try clear c4
                          try clear c5
                          try clear c5b0
                          try clear c6
                          try clear c7
                          try clear c8
                          try clear c15
                          try clear c22
                          try clear c25
                          try clear c26
                          try clear c30
                          try clear c34
                          try clear c36
                          try clear c37
                          try clear c38
                          try clear c44
                          try clear c44b0
                          try clear c46
                          try clear c47
                          try clear c51
                          try clear c55
                          try clear c58
                          try clear c58b0
                          try clear c59
                          try clear c59b0
                          try clear c59b1
                          try clear c60
                          try clear c61
                          try clear c62
                          try clear c63
                          try clear c64
                          try clear c73
                          try clear c74
                          try clear c77
                          try clear c78
                          try clear c79
                          try clear c81
                          try clear c84
                          try clear c85
                          try clear c87
                          try clear hcz16_0
                          try clear hcz16_1
                          try clear hcz16_2
                          try clear hcz16_3
                          try clear hcz23_0
                          try clear hcz23_1
                          try clear hcz23_2
                          try clear hcz23_3
                          try clear hcz27_0
                          try clear hcz27_1
                          try clear hcz27_2
                          try clear hcz27_3
                          try clear hcz28_0
                          try clear hcz28_1
                          try clear hcz28_2
                          try clear hcz28_3
                          try clear hcz31_0
                          try clear hcz31_1
                          try clear hcz31_2
                          try clear hcz31_3
                          try clear hcz32_0
                          try clear hcz32_1
                          try clear hcz32_2
                          try clear hcz32_3
                          try clear hcz48_0
                          try clear hcz48_1
                          try clear hcz48_2
                          try clear hcz48_3
                          try clear hcz49_0
                          try clear hcz49_1
                          try clear hcz49_2
                          try clear hcz49_3
                          try clear hcz52_0
                          try clear hcz52_1
                          try clear hcz52_2
                          try clear hcz52_3
                          try clear hcz53_0
                          try clear hcz53_1
                          try clear hcz53_2
                          try clear hcz53_3
                          try clear hcz64_0
                          try clear hcz64_1
                          try clear hcz64_2
                          try clear hcz64_3
                          try clear hcz66_0
                          try clear hcz66_1
                          try clear hcz66_2
                          try clear hcz66_3
                          try clear hcz75_0
                          try clear hcz75_1
                          try clear hcz75_2
                          try clear hcz75_3
                          try clear hcz80_0
                          try clear hcz80_1
                          try clear hcz80_2
                          try clear hcz80_3
                          try clear hcz82_0
                          try clear hcz82_1
                          try clear hcz82_2
                          try clear hcz82_3
                          try clear hcz86_0
                          try clear hcz86_1
                          try clear hcz86_2
                          try clear hcz86_3
                          try clear hcz88_0
                          try clear hcz88_1
                          try clear hcz88_2
                          try clear hcz88_3
                          try clear hfz16_0
                          try clear hfz16_1
                          try clear hfz16_2
                          try clear hfz16_3
                          try clear hfz23_0
                          try clear hfz23_1
                          try clear hfz23_2
                          try clear hfz23_3
                          try clear hfz27_0
                          try clear hfz27_1
                          try clear hfz27_2
                          try clear hfz27_3
                          try clear hfz28_0
                          try clear hfz28_1
                          try clear hfz28_2
                          try clear hfz28_3
                          try clear hfz31_0
                          try clear hfz31_1
                          try clear hfz31_2
                          try clear hfz31_3
                          try clear hfz32_0
                          try clear hfz32_1
                          try clear hfz32_2
                          try clear hfz32_3
                          try clear hfz48_0
                          try clear hfz48_1
                          try clear hfz48_2
                          try clear hfz48_3
                          try clear hfz49_0
                          try clear hfz49_1
                          try clear hfz49_2
                          try clear hfz49_3
                          try clear hfz52_0
                          try clear hfz52_1
                          try clear hfz52_2
                          try clear hfz52_3
                          try clear hfz53_0
                          try clear hfz53_1
                          try clear hfz53_2
                          try clear hfz53_3
                          try clear hfz64_0
                          try clear hfz64_1
                          try clear hfz64_2
                          try clear hfz64_3
                          try clear hfz66_0
                          try clear hfz66_1
                          try clear hfz66_2
                          try clear hfz66_3
                          try clear hfz75_0
                          try clear hfz75_1
                          try clear hfz75_2
                          try clear hfz75_3
                          try clear hfz80_0
                          try clear hfz80_1
                          try clear hfz80_2
                          try clear hfz80_3
                          try clear hfz82_0
                          try clear hfz82_1
                          try clear hfz82_2
                          try clear hfz82_3
                          try clear hfz86_0
                          try clear hfz86_1
                          try clear hfz86_2
                          try clear hfz86_3
                          try clear hfz88_0
                          try clear hfz88_1
                          try clear hfz88_2
                          try clear hfz88_3
                          try clear p2
                          obtain ⟨kq, x95_61, rfl, HA, HJ61, HO_264000, HO_275000, HO_297000, BK263, BK274, BK296, HB⟩ := hcut
                          have hl275000_61 := (Kd.R_reads' HO_275000.out).1
                          rw [hl275000_61] at HO_275000
                          (try simp only [hl275000_61])
                          (try simp only [hl275000_61] at BK263)
                          (try simp only [hl275000_61] at BK274)
                          (try simp only [hl275000_61] at BK296)
                          (try simp only [hl275000_61] at HO_264000)
                          (try simp only [hl275000_61] at HO_297000)
                          cases kq with
                          | zero => exact absurd HA.out (by simp [laws_FnExactNewScript.j2])
                          | succ kj61 =>
                            have H := HA.out
                            clear HA
                            simp only [laws_FnExactNewScript.j2] at H
                            by_cases c90 : x95_61 = true
                            · subst c90
                              have H1 : (none) = some r := by rw [if_pos rfl] at H; exact H
                              clear H
                              have H := H1
                              clear H1
                              exact absurd H (by simp)
                            · replace c90 := Bool.eq_false_iff.mpr c90
                              subst c90
                              have H1 : ((laws_heldSource.f kj61 t284 t270 t271 t272 1).bind fun t298 => (if t298 < 0 then (none) else (if t298 = t283 then (some true) else (none)))) = some r := by rw [if_neg (show ¬ (false = true) by decide)] at H; exact H
                              clear H
                              have H := H1
                              clear H1
                              replace H := Option.bind_eq_some_iff.mp H
                              obtain ⟨t298, A910, H⟩ := H
                              replace H : (if t298 < 0 then (none) else (if t298 = t283 then (some true) else (none))) = some r := H
                              have A91 := Aside0.mk A910
                              clear A910
                              by_cases c92 : t298 < 0
                              · rw [if_pos c92] at H
                                exact absurd H (by simp)
                              · rw [if_neg c92] at H
                                have c92b0 : decide (t298 < 0) = false := decide_eq_false c92
                                clear c92
                                by_cases c93 : t298 = t283
                                · rw [if_pos c93] at H
                                  have c93b0 : (t298 == t283) = true := beq_iff_eq.mpr c93
                                  have c93b1 : (t298 != t283) = false := bne_eq_false_iff_eq.mpr c93
                                  clear c93
                                  obtain rfl := Option.some.inj H
                                  have hnb94 := NB274_263.out
                                  have hnc94 := NB263_274.out
                                  have hnb95 := NB274_296.out
                                  have hnc95 := NB296_274.out
                                  have hcz96_0 : wc.cell? ⟨gb274, 0, none⟩ = some (.slice Ao21 t284.length co21) := (blk_cell BK274.out 0).trans rfl
                                  have hcz96_1 : wc.cell? ⟨gb274, 1, none⟩ = some (.int .i64 t270) := (blk_cell BK274.out 1).trans rfl
                                  have hcz96_2 : wc.cell? ⟨gb274, 2, none⟩ = some (.string t271) := (blk_cell BK274.out 2).trans rfl
                                  have hcz96_3 : wc.cell? ⟨gb274, 3, none⟩ = some (.int .i64 t272) := (blk_cell BK274.out 3).trans rfl
                                  have hfz96_0 := blk_frozen BK274.out 0
                                  have hfz96_1 := blk_frozen BK274.out 1
                                  have hfz96_2 := blk_frozen BK274.out 2
                                  have hfz96_3 := blk_frozen BK274.out 3
                                  go_wp2_with (first | ((with_reducible refine gate_callee (f := 38) rfl ?_); refine goesL_ (some 98) rfl rfl Try.func38 (by kernel_rfl) rfl #[.agg #[.slice Ao21 t284.length co21, .int .i64 t270, .string t271, .int .i64 t272], .int .i64 1] rfl (by (try simp only [List.map_toArray, List.map_cons, List.map_nil]); first | done | rfl | (simp only [List.length_drop, List.length_take]; rfl)) ?_; (with_reducible refine (laws_heldSource.calls kj61 _ _ t284 t270 t271 t272 1 t298 _ ?side1 ?side2 A91.out).mono ?_); (case side1 => repeat (first | exact (Kd.R_reads' HO_275000.out).2.2 | (with_reducible refine Kd.C_alloc ?_ _) | (with_reducible refine Kd.C_drewN ?_ _) | (with_reducible refine Kd.C_drew ?_))); (case side2 => exact (Kd.R_reads' HO_275000.out).2.1); rintro e w97 ⟨rfl, hb⟩; refine ⟨_, rfl, ?_⟩; have n0_ := Aside0.mk (Kd.R_below (by (with_reducible repeat (first | apply Kd.R_alloc | apply Kd.R_drewN | apply Kd.R_drew)); exact HO_264000.out) hb); have n1_ := Aside0.mk (Kd.R_below (by (with_reducible repeat (first | apply Kd.R_alloc | apply Kd.R_drewN | apply Kd.R_drew)); exact HO_275000.out) hb); have n2_ := Aside0.mk (Kd.R_below (by (with_reducible repeat (first | apply Kd.R_alloc | apply Kd.R_drewN | apply Kd.R_drew)); exact HO_297000.out) hb); have n3_ := Aside0.mk (blk_below (g := gb263) (o := .cells #[.slice Ao15 t256.length co15, .int .i64 t259, .string t260, .int .i64 t261] 36 (0, 0)) (by (with_reducible repeat (first | apply bN | apply bd | apply bA)); exact BK263.out) hb); have n4_ := Aside0.mk (blk_below (g := gb274) (o := .cells #[.slice Ao21 t284.length co21, .int .i64 t270, .string t271, .int .i64 t272] 36 (0, 0)) (by (with_reducible repeat (first | apply bN | apply bd | apply bA)); exact BK274.out) hb); have n5_ := Aside0.mk (blk_below (g := gb296) (o := .cells #[.slice Ao72 t289.length co72, .int .i64 t292, .string t293, .int .i64 t294] 36 (0, 0)) (by (with_reducible repeat (first | apply bN | apply bd | apply bA)); exact BK296.out) hb); have n6_ := Aside0.mk (below_step (by repeat (first | (with_reducible first | exact HB.out | apply below_alloc | apply pw_below_drewN | apply below_drew1 | refine below_set ?_ GE263.out | refine below_set ?_ GE274.out | refine below_set ?_ GE296.out) | exact HB.out)) hb); clear HO_264000; clear HO_275000; clear HO_297000; clear BK263; clear BK274; clear BK296; clear HB; have HO_264000 := n0_; have HO_275000 := n1_; have HO_297000 := n2_; have BK263 := n3_; have BK274 := n4_; have BK296 := n5_; have HB := n6_; clear n0_ n1_ n2_ n3_ n4_ n5_ n6_; (try clear hb); (try clear hb2); (try clear hk); (try clear hi)))
                                  go_ret
                                  exact ⟨by first | rfl | (simp [errW_none, errW_some] <;> rfl) | (simp [*, errW_none, errW_some] <;> rfl), by repeat (first | (with_reducible first | exact HB.out | apply below_alloc | apply pw_below_drewN | apply below_drew1 | refine below_set ?_ GE263.out | refine below_set ?_ GE274.out | refine below_set ?_ GE296.out) | exact HB.out)⟩
                                · rw [if_neg c93] at H
                                  exact absurd H (by simp)
                      · rw [if_neg c59] at H
                        exact absurd H (by simp)
            · replace c37 := Bool.eq_false_iff.mpr c37
              subst c37
              have H1 : (none) = some r := by rw [if_neg (show ¬ (false = true) by decide)] at H; exact H
              clear H
              have H := H1
              clear H1
              exact absurd H (by simp)

end Go.Proofs.Ytlogocmojnhpbaa.Print
