-- Packed by a program of this session (slim.py) out of printed texts; not trusted, Lean checks it.
import Derived.Test.YtlogocmojnhpbaaPrint0
import Derived.Test.YtlogocmojnhpbaaK4
import Derived.Test.YtlogocmojnhpbaaQFnExactExtractCollision1
import Derived.Test.YtlogocmojnhpbaaQFnExactExtractCollision2
import Derived.Test.YtlogocmojnhpbaaQFnExactExtractCollision3
namespace Go.Proofs.Ytlogocmojnhpbaa.Print
open Go.RowKit Go.Proofs.YtlogocmojnhpbaaW.PrintWords Go.Proofs.YtlogocmojnhpbaaW.PrintLast Go.Proofs.YtlogocmojnhpbaaW.PrintMore
attribute [local go_sem] max2_int min2_int max_two min_two max_three min_three max_four min_four   -- for this text's walks alone
set_option linter.unusedVariables false
set_option linter.unusedSimpArgs false

/-! ### laws_FnExactExtractCollision: function 12 -/
def laws_FnExactExtractCollision.j0 : Nat → List ByteArray → List ByteArray → List ByteArray → List ByteArray → Bool → Option (Bool)
  | 0, _, _, _, _, _ => none
  | k + 1, x4, x6, x18, x19, x77 => if x77 = true then (none) else ((laws_toStringS.f k x4).bind fun t1189 => ((laws_eqStringS.f k x18 t1189).bind fun t1192 => (if t1192 = true then ((laws_toStringS.f k x6).bind fun t1193 => ((laws_eqStringS.f k x19 t1193).bind fun t1196 => (if t1196 = true then (some true) else (none)))) else (none))))
def laws_FnExactExtractCollision.f (k : Nat) (a0 : ByteArray) (a1 : Int) (a2 : Int) (a3 : ByteArray) (l4 : List ByteArray) (a5 : ByteArray) (l6 : List ByteArray) : Option (Bool) := if (a0.size : Int) > 1048576 then (some true) else (if (a3.size : Int) > 1048576 then (some true) else (if (a5.size : Int) > 1048576 then (some true) else ((laws_szStringS.f k l4 1048576).bind fun t1166 => (if t1166 < 0 then (some true) else ((laws_szStringS.f k l6 t1166).bind fun t1167 => (if t1167 < 0 then (some true) else ((laws_toStringS.f k l4).bind fun t1168 => ((laws_toStringS.f k l6).bind fun t1171 => ((spec_ExtractCollision.f k a0 a1 a2 a3 t1168 a5 t1171).bind fun bt1174 => ((laws_toStringS.f k l4).bind fun t1178 => ((laws_toStringS.f k l6).bind fun t1181 => ((impl_ExtractCollision.f k a0 a1 a2 a3 t1178 a5 t1181).bind fun bt1184 => ((laws_eqCollision.f bt1184.1 bt1184.2.1 bt1174.1 bt1174.2.1).bind fun t1188 => (if t1188 = true then (laws_FnExactExtractCollision.j0 k l4 l6 t1178 t1181 (bt1184.2.2 != bt1174.2.2)) else (laws_FnExactExtractCollision.j0 k l4 l6 t1178 t1181 true)))))))))))))))
theorem laws_FnExactExtractCollision.mono_l : ∀ k, (∀ y0 y1 y2 y3 y4, LeO (laws_FnExactExtractCollision.j0 k y0 y1 y2 y3 y4) (laws_FnExactExtractCollision.j0 (k + 1) y0 y1 y2 y3 y4))
  | 0 => fun _ _ _ _ _ r h => by simp [laws_FnExactExtractCollision.j0] at h
  | k + 1 => by
    have ih0 := laws_FnExactExtractCollision.mono_l k
    · intro y0 y1 y2 y3 y4
      unfold laws_FnExactExtractCollision.j0
      repeat' first
      | (with_reducible exact ih0 _ _ _ _ _)
      | (with_reducible exact impl_ExtractCollision.mono _ _ _ _ _ _ _ _)
      | (with_reducible exact laws_eqStringS.mono _ _ _)
      | (with_reducible exact laws_szStringS.mono _ _ _)
      | (with_reducible exact laws_toStringS.mono _ _)
      | (with_reducible exact spec_ExtractCollision.mono _ _ _ _ _ _ _ _)
      | (with_reducible exact LeO.refl _)
      | (with_reducible exact LeO.none _)
      | (with_reducible refine LeO.ite ?_ ?_)
      | (with_reducible refine LeO.bind ?_ (fun _ => ?_))
      | exact ih0 _ _ _ _ _
      | exact impl_ExtractCollision.mono _ _ _ _ _ _ _ _
      | exact laws_eqStringS.mono _ _ _
      | exact laws_szStringS.mono _ _ _
      | exact laws_toStringS.mono _ _
      | exact spec_ExtractCollision.mono _ _ _ _ _ _ _ _
      | exact LeO.none _
      | refine LeO.ite ?_ ?_
      | refine LeO.bind ?_ (fun _ => ?_)
theorem laws_FnExactExtractCollision.mono : ∀ a0 a1 a2 a3 a4 a5 a6 k, LeO (laws_FnExactExtractCollision.f k a0 a1 a2 a3 a4 a5 a6) (laws_FnExactExtractCollision.f (k + 1) a0 a1 a2 a3 a4 a5 a6) := by
  intro a0 a1 a2 a3 a4 a5 a6 k
  have ih0 := laws_FnExactExtractCollision.mono_l k
  unfold laws_FnExactExtractCollision.f
  repeat' first
      | (with_reducible exact ih0 _ _ _ _ _)
      | (with_reducible exact impl_ExtractCollision.mono _ _ _ _ _ _ _ _)
      | (with_reducible exact laws_eqStringS.mono _ _ _)
      | (with_reducible exact laws_szStringS.mono _ _ _)
      | (with_reducible exact laws_toStringS.mono _ _)
      | (with_reducible exact spec_ExtractCollision.mono _ _ _ _ _ _ _ _)
      | (with_reducible exact LeO.refl _)
      | (with_reducible exact LeO.none _)
      | (with_reducible refine LeO.ite ?_ ?_)
      | (with_reducible refine LeO.bind ?_ (fun _ => ?_))
      | exact ih0 _ _ _ _ _
      | exact impl_ExtractCollision.mono _ _ _ _ _ _ _ _
      | exact laws_eqStringS.mono _ _ _
      | exact laws_szStringS.mono _ _ _
      | exact laws_toStringS.mono _ _
      | exact spec_ExtractCollision.mono _ _ _ _ _ _ _ _
      | exact LeO.none _
      | refine LeO.ite ?_ ?_
      | refine LeO.bind ?_ (fun _ => ?_)
set_option maxHeartbeats 8000000 in
set_option maxRecDepth 100000 in
theorem laws_FnExactExtractCollision.calls (k : Nat) (a0 : ByteArray) (a1 : Int) (a2 : Int) (a3 : ByteArray) (A4 : Option Addr) (c4 : Nat) (l4 : List ByteArray) (a5 : ByteArray) (A6 : Option Addr) (c6 : Nat) (l6 : List ByteArray) (r : Bool) (w : World) (hr4 : Kd.C Kd.string w A4 l4.length l4) (hc4 : l4.length ≤ c4) (hr6 : Kd.C Kd.string w A6 l6.length l6) (hc6 : l6.length ≤ c6) (h : laws_FnExactExtractCollision.f k a0 a1 a2 a3 l4 a5 l6 = some r) :
    Calls Try.prog 12 #[.string a0, .int .i64 a1, .int .i64 a2, .string a3, .slice A4 l4.length c4, .string a5, .slice A6 l6.length c6] w fun e w' => e = .returned (.bool r) ∧ Below w.heap.size w w' := by
  have hu54 := Try.underlying54
  have HR4 := Aside0.mk hr4
  have HC4 := Aside0.mk hc4
  clear hr4 hc4
  have HR6 := Aside0.mk hr6
  have HC6 := Aside0.mk hc6
  clear hr6 hc6
  have HB := Aside0.mk (Below.refl w.heap.size w)
  have H : (if (a0.size : Int) > 1048576 then (some true) else (if (a3.size : Int) > 1048576 then (some true) else (if (a5.size : Int) > 1048576 then (some true) else ((laws_szStringS.f k l4 1048576).bind fun t1166 => (if t1166 < 0 then (some true) else ((laws_szStringS.f k l6 t1166).bind fun t1167 => (if t1167 < 0 then (some true) else ((laws_toStringS.f k l4).bind fun t1168 => ((laws_toStringS.f k l6).bind fun t1171 => ((spec_ExtractCollision.f k a0 a1 a2 a3 t1168 a5 t1171).bind fun bt1174 => ((laws_toStringS.f k l4).bind fun t1178 => ((laws_toStringS.f k l6).bind fun t1181 => ((impl_ExtractCollision.f k a0 a1 a2 a3 t1178 a5 t1181).bind fun bt1184 => ((laws_eqCollision.f bt1184.1 bt1184.2.1 bt1174.1 bt1174.2.1).bind fun t1188 => (if t1188 = true then (laws_FnExactExtractCollision.j0 k l4 l6 t1178 t1181 (bt1184.2.2 != bt1174.2.2)) else (laws_FnExactExtractCollision.j0 k l4 l6 t1178 t1181 true)))))))))))))))) = some r := h
  clear h
  by_cases c8 : (a0.size : Int) > 1048576
  · rw [if_pos c8] at H
    have c8b0 : decide (1048576 < (a0.size : Int)) = true := decide_eq_true c8
    have c8b1 : decide (1048576 < a0.size) = true := decide_eq_true (by omega)
    clear c8
    obtain rfl := Option.some.inj H
    go_enter Try.func12, Try.ntmps12
    go_wp2
    go_ret
    exact ⟨by first | rfl | (simp [errW_none, errW_some] <;> rfl) | (simp [*, errW_none, errW_some] <;> rfl), by repeat (first | (with_reducible first | exact HB.out | apply below_alloc | apply pw_below_drewN | apply below_drew1) | exact HB.out)⟩
  · rw [if_neg c8] at H
    have c8b0 : decide (1048576 < (a0.size : Int)) = false := decide_eq_false c8
    have c8b1 : decide (1048576 < a0.size) = false := decide_eq_false (by omega)
    clear c8
    by_cases c9 : (a3.size : Int) > 1048576
    · rw [if_pos c9] at H
      have c9b0 : decide (1048576 < (a3.size : Int)) = true := decide_eq_true c9
      have c9b1 : decide (1048576 < a3.size) = true := decide_eq_true (by omega)
      clear c9
      obtain rfl := Option.some.inj H
      go_enter Try.func12, Try.ntmps12
      go_wp2
      go_ret
      exact ⟨by first | rfl | (simp [errW_none, errW_some] <;> rfl) | (simp [*, errW_none, errW_some] <;> rfl), by repeat (first | (with_reducible first | exact HB.out | apply below_alloc | apply pw_below_drewN | apply below_drew1) | exact HB.out)⟩
    · rw [if_neg c9] at H
      have c9b0 : decide (1048576 < (a3.size : Int)) = false := decide_eq_false c9
      have c9b1 : decide (1048576 < a3.size) = false := decide_eq_false (by omega)
      clear c9
      by_cases c10 : (a5.size : Int) > 1048576
      · rw [if_pos c10] at H
        have c10b0 : decide (1048576 < (a5.size : Int)) = true := decide_eq_true c10
        have c10b1 : decide (1048576 < a5.size) = true := decide_eq_true (by omega)
        clear c10
        obtain rfl := Option.some.inj H
        go_enter Try.func12, Try.ntmps12
        go_wp2
        go_ret
        exact ⟨by first | rfl | (simp [errW_none, errW_some] <;> rfl) | (simp [*, errW_none, errW_some] <;> rfl), by repeat (first | (with_reducible first | exact HB.out | apply below_alloc | apply pw_below_drewN | apply below_drew1) | exact HB.out)⟩
      · rw [if_neg c10] at H
        have c10b0 : decide (1048576 < (a5.size : Int)) = false := decide_eq_false c10
        have c10b1 : decide (1048576 < a5.size) = false := decide_eq_false (by omega)
        clear c10
        replace H := Option.bind_eq_some_iff.mp H
        obtain ⟨t1166, A110, H⟩ := H
        replace H : (if t1166 < 0 then (some true) else ((laws_szStringS.f k l6 t1166).bind fun t1167 => (if t1167 < 0 then (some true) else ((laws_toStringS.f k l4).bind fun t1168 => ((laws_toStringS.f k l6).bind fun t1171 => ((spec_ExtractCollision.f k a0 a1 a2 a3 t1168 a5 t1171).bind fun bt1174 => ((laws_toStringS.f k l4).bind fun t1178 => ((laws_toStringS.f k l6).bind fun t1181 => ((impl_ExtractCollision.f k a0 a1 a2 a3 t1178 a5 t1181).bind fun bt1184 => ((laws_eqCollision.f bt1184.1 bt1184.2.1 bt1174.1 bt1174.2.1).bind fun t1188 => (if t1188 = true then (laws_FnExactExtractCollision.j0 k l4 l6 t1178 t1181 (bt1184.2.2 != bt1174.2.2)) else (laws_FnExactExtractCollision.j0 k l4 l6 t1178 t1181 true)))))))))))) = some r := H
        have A11 := Aside0.mk A110
        clear A110
        by_cases c12 : t1166 < 0
        · rw [if_pos c12] at H
          have c12b0 : decide (t1166 < 0) = true := decide_eq_true c12
          clear c12
          obtain rfl := Option.some.inj H
          go_enter Try.func12, Try.ntmps12
          go_wp2_with (first | ((with_reducible refine gate_callee (f := 39) rfl ?_); refine goesL_ (some 33) rfl rfl Try.func39 (by kernel_rfl) rfl #[.slice A4 l4.length c4, .int .i64 1048576] rfl (by (try simp only [List.map_toArray, List.map_cons, List.map_nil]); first | done | rfl | (simp only [List.length_drop, List.length_take]; rfl)) ?_; (with_reducible refine (laws_szStringS.calls k _ _ l4 1048576 t1166 _ ?side1 ?side2 A11.out).mono ?_); (case side1 => repeat (first | exact HR4.out | (with_reducible refine Kd.C_alloc ?_ _) | (with_reducible refine Kd.C_drewN ?_ _) | (with_reducible refine Kd.C_drew ?_))); (case side2 => exact HC4.out); rintro e w' ⟨rfl, ⟨nd, rfl⟩⟩; refine ⟨_, rfl, ?_⟩))
          go_ret
          exact ⟨by first | rfl | (simp [errW_none, errW_some] <;> rfl) | (simp [*, errW_none, errW_some] <;> rfl), by repeat (first | (with_reducible first | exact HB.out | apply below_alloc | apply pw_below_drewN | apply below_drew1) | exact HB.out)⟩
        · rw [if_neg c12] at H
          have c12b0 : decide (t1166 < 0) = false := decide_eq_false c12
          clear c12
          replace H := Option.bind_eq_some_iff.mp H
          obtain ⟨t1167, A130, H⟩ := H
          replace H : (if t1167 < 0 then (some true) else ((laws_toStringS.f k l4).bind fun t1168 => ((laws_toStringS.f k l6).bind fun t1171 => ((spec_ExtractCollision.f k a0 a1 a2 a3 t1168 a5 t1171).bind fun bt1174 => ((laws_toStringS.f k l4).bind fun t1178 => ((laws_toStringS.f k l6).bind fun t1181 => ((impl_ExtractCollision.f k a0 a1 a2 a3 t1178 a5 t1181).bind fun bt1184 => ((laws_eqCollision.f bt1184.1 bt1184.2.1 bt1174.1 bt1174.2.1).bind fun t1188 => (if t1188 = true then (laws_FnExactExtractCollision.j0 k l4 l6 t1178 t1181 (bt1184.2.2 != bt1174.2.2)) else (laws_FnExactExtractCollision.j0 k l4 l6 t1178 t1181 true)))))))))) = some r := H
          have A13 := Aside0.mk A130
          clear A130
          by_cases c14 : t1167 < 0
          · rw [if_pos c14] at H
            have c14b0 : decide (t1167 < 0) = true := decide_eq_true c14
            clear c14
            obtain rfl := Option.some.inj H
            go_enter Try.func12, Try.ntmps12
            go_wp2_with (first | ((with_reducible refine gate_callee (f := 39) rfl ?_); refine goesL_ (some 33) rfl rfl Try.func39 (by kernel_rfl) rfl #[.slice A4 l4.length c4, .int .i64 1048576] rfl (by (try simp only [List.map_toArray, List.map_cons, List.map_nil]); first | done | rfl | (simp only [List.length_drop, List.length_take]; rfl)) ?_; (with_reducible refine (laws_szStringS.calls k _ _ l4 1048576 t1166 _ ?side1 ?side2 A11.out).mono ?_); (case side1 => repeat (first | exact HR4.out | (with_reducible refine Kd.C_alloc ?_ _) | (with_reducible refine Kd.C_drewN ?_ _) | (with_reducible refine Kd.C_drew ?_))); (case side2 => exact HC4.out); rintro e w' ⟨rfl, ⟨nd, rfl⟩⟩; refine ⟨_, rfl, ?_⟩) | ((with_reducible refine gate_callee (f := 39) rfl ?_); refine goesL_ (some 38) rfl rfl Try.func39 (by kernel_rfl) rfl #[.slice A6 l6.length c6, .int .i64 t1166] rfl (by (try simp only [List.map_toArray, List.map_cons, List.map_nil]); first | done | rfl | (simp only [List.length_drop, List.length_take]; rfl)) ?_; (with_reducible refine (laws_szStringS.calls k _ _ l6 t1166 t1167 _ ?side1 ?side2 A13.out).mono ?_); (case side1 => repeat (first | exact HR6.out | (with_reducible refine Kd.C_alloc ?_ _) | (with_reducible refine Kd.C_drewN ?_ _) | (with_reducible refine Kd.C_drew ?_))); (case side2 => exact HC6.out); rintro e w' ⟨rfl, ⟨nd, rfl⟩⟩; refine ⟨_, rfl, ?_⟩))
            go_ret
            exact ⟨by first | rfl | (simp [errW_none, errW_some] <;> rfl) | (simp [*, errW_none, errW_some] <;> rfl), by repeat (first | (with_reducible first | exact HB.out | apply below_alloc | apply pw_below_drewN | apply below_drew1) | exact HB.out)⟩
          · rw [if_neg c14] at H
            have c14b0 : decide (t1167 < 0) = false := decide_eq_false c14
            clear c14
            replace H := Option.bind_eq_some_iff.mp H
            obtain ⟨t1168, A150, H⟩ := H
            replace H : ((laws_toStringS.f k l6).bind fun t1171 => ((spec_ExtractCollision.f k a0 a1 a2 a3 t1168 a5 t1171).bind fun bt1174 => ((laws_toStringS.f k l4).bind fun t1178 => ((laws_toStringS.f k l6).bind fun t1181 => ((impl_ExtractCollision.f k a0 a1 a2 a3 t1178 a5 t1181).bind fun bt1184 => ((laws_eqCollision.f bt1184.1 bt1184.2.1 bt1174.1 bt1174.2.1).bind fun t1188 => (if t1188 = true then (laws_FnExactExtractCollision.j0 k l4 l6 t1178 t1181 (bt1184.2.2 != bt1174.2.2)) else (laws_FnExactExtractCollision.j0 k l4 l6 t1178 t1181 true)))))))) = some r := H
            have A15 := Aside0.mk A150
            clear A150
            replace H := Option.bind_eq_some_iff.mp H
            obtain ⟨t1171, A160, H⟩ := H
            replace H : ((spec_ExtractCollision.f k a0 a1 a2 a3 t1168 a5 t1171).bind fun bt1174 => ((laws_toStringS.f k l4).bind fun t1178 => ((laws_toStringS.f k l6).bind fun t1181 => ((impl_ExtractCollision.f k a0 a1 a2 a3 t1178 a5 t1181).bind fun bt1184 => ((laws_eqCollision.f bt1184.1 bt1184.2.1 bt1174.1 bt1174.2.1).bind fun t1188 => (if t1188 = true then (laws_FnExactExtractCollision.j0 k l4 l6 t1178 t1181 (bt1184.2.2 != bt1174.2.2)) else (laws_FnExactExtractCollision.j0 k l4 l6 t1178 t1181 true))))))) = some r := H
            have A16 := Aside0.mk A160
            clear A160
            replace H := Option.bind_eq_some_iff.mp H
            obtain ⟨⟨t1174, t1175, t1176⟩, A170, H⟩ := H
            replace H : ((laws_toStringS.f k l4).bind fun t1178 => ((laws_toStringS.f k l6).bind fun t1181 => ((impl_ExtractCollision.f k a0 a1 a2 a3 t1178 a5 t1181).bind fun bt1184 => ((laws_eqCollision.f bt1184.1 bt1184.2.1 t1174 t1175).bind fun t1188 => (if t1188 = true then (laws_FnExactExtractCollision.j0 k l4 l6 t1178 t1181 (bt1184.2.2 != t1176)) else (laws_FnExactExtractCollision.j0 k l4 l6 t1178 t1181 true)))))) = some r := H
            have A17 := Aside0.mk A170
            clear A170
            replace H := Option.bind_eq_some_iff.mp H
            obtain ⟨t1178, A180, H⟩ := H
            replace H : ((laws_toStringS.f k l6).bind fun t1181 => ((impl_ExtractCollision.f k a0 a1 a2 a3 t1178 a5 t1181).bind fun bt1184 => ((laws_eqCollision.f bt1184.1 bt1184.2.1 t1174 t1175).bind fun t1188 => (if t1188 = true then (laws_FnExactExtractCollision.j0 k l4 l6 t1178 t1181 (bt1184.2.2 != t1176)) else (laws_FnExactExtractCollision.j0 k l4 l6 t1178 t1181 true))))) = some r := H
            have A18 := Aside0.mk A180
            clear A180
            replace H := Option.bind_eq_some_iff.mp H
            obtain ⟨t1181, A190, H⟩ := H
            replace H : ((impl_ExtractCollision.f k a0 a1 a2 a3 t1178 a5 t1181).bind fun bt1184 => ((laws_eqCollision.f bt1184.1 bt1184.2.1 t1174 t1175).bind fun t1188 => (if t1188 = true then (laws_FnExactExtractCollision.j0 k l4 l6 t1178 t1181 (bt1184.2.2 != t1176)) else (laws_FnExactExtractCollision.j0 k l4 l6 t1178 t1181 true)))) = some r := H
            have A19 := Aside0.mk A190
            clear A190
            replace H := Option.bind_eq_some_iff.mp H
            obtain ⟨⟨t1184, t1185, t1186⟩, A200, H⟩ := H
            replace H : ((laws_eqCollision.f t1184 t1185 t1174 t1175).bind fun t1188 => (if t1188 = true then (laws_FnExactExtractCollision.j0 k l4 l6 t1178 t1181 (t1186 != t1176)) else (laws_FnExactExtractCollision.j0 k l4 l6 t1178 t1181 true))) = some r := H
            have A20 := Aside0.mk A200
            clear A200
            have HC21 := Aside0.mk H
            clear H
            go_enter Try.func12, Try.ntmps12
            go_upto_region 18 with (first | ((with_reducible refine gate_callee (f := 39) rfl ?_); refine goesL_ (some 33) rfl rfl Try.func39 (by kernel_rfl) rfl #[.slice A4 l4.length c4, .int .i64 1048576] rfl (by (try simp only [List.map_toArray, List.map_cons, List.map_nil]); first | done | rfl | (simp only [List.length_drop, List.length_take]; rfl)) ?_; (with_reducible refine (laws_szStringS.calls k _ _ l4 1048576 t1166 _ ?side1 ?side2 A11.out).mono ?_); (case side1 => repeat (first | exact HR4.out | (with_reducible refine Kd.C_alloc ?_ _) | (with_reducible refine Kd.C_drewN ?_ _) | (with_reducible refine Kd.C_drew ?_))); (case side2 => exact HC4.out); rintro e w' ⟨rfl, ⟨nd, rfl⟩⟩; refine ⟨_, rfl, ?_⟩) | ((with_reducible refine gate_callee (f := 39) rfl ?_); refine goesL_ (some 38) rfl rfl Try.func39 (by kernel_rfl) rfl #[.slice A6 l6.length c6, .int .i64 t1166] rfl (by (try simp only [List.map_toArray, List.map_cons, List.map_nil]); first | done | rfl | (simp only [List.length_drop, List.length_take]; rfl)) ?_; (with_reducible refine (laws_szStringS.calls k _ _ l6 t1166 t1167 _ ?side1 ?side2 A13.out).mono ?_); (case side1 => repeat (first | exact HR6.out | (with_reducible refine Kd.C_alloc ?_ _) | (with_reducible refine Kd.C_drewN ?_ _) | (with_reducible refine Kd.C_drew ?_))); (case side2 => exact HC6.out); rintro e w' ⟨rfl, ⟨nd, rfl⟩⟩; refine ⟨_, rfl, ?_⟩) | ((with_reducible refine gate_callee (f := 41) rfl ?_); refine goesL_ (some 47) rfl rfl Try.func41 (by kernel_rfl) rfl #[.slice A4 l4.length c4] rfl (by (try simp only [List.map_toArray, List.map_cons, List.map_nil]); first | done | rfl | (simp only [List.length_drop, List.length_take]; rfl)) ?_; (with_reducible refine (laws_toStringS.calls k _ _ l4 t1168 _ ?side1 ?side2 A15.out).mono ?_); (case side1 => repeat (first | exact HR4.out | (with_reducible refine Kd.C_alloc ?_ _) | (with_reducible refine Kd.C_drewN ?_ _) | (with_reducible refine Kd.C_drew ?_))); (case side2 => exact HC4.out); rintro e w22 ⟨v1169, rfl, ho0, hb⟩; refine ⟨_, rfl, ?_⟩; have n0_ := Aside0.mk (Kd.R_lower ho0 (below_size (by repeat (first | (with_reducible first | exact HB.out | apply below_alloc | apply pw_below_drewN | apply below_drew1) | exact HB.out)))); have n1_ := Aside0.mk (below_step (by repeat (first | (with_reducible first | exact HB.out | apply below_alloc | apply pw_below_drewN | apply below_drew1) | exact HB.out)) hb); clear HB; have HO1170 := n0_; have HB := n1_; clear n0_ n1_; (try clear hb); (try clear hb2); (try clear hk); (try clear hi); (try clear ho0)) | ((with_reducible refine gate_callee (f := 41) rfl ?_); refine goesL_ (some 50) rfl rfl Try.func41 (by kernel_rfl) rfl #[.slice A6 l6.length c6] rfl (by (try simp only [List.map_toArray, List.map_cons, List.map_nil]); first | done | rfl | (simp only [List.length_drop, List.length_take]; rfl)) ?_; (with_reducible refine (laws_toStringS.calls k _ _ l6 t1171 _ ?side1 ?side2 A16.out).mono ?_); (case side1 => repeat (first | exact (Kd.C_below HR6.out HB.out) | (with_reducible refine Kd.C_alloc ?_ _) | (with_reducible refine Kd.C_drewN ?_ _) | (with_reducible refine Kd.C_drew ?_))); (case side2 => exact HC6.out); rintro e w23 ⟨v1172, rfl, ho0, hb⟩; refine ⟨_, rfl, ?_⟩; have n0_ := Aside0.mk (Kd.R_elder' (by (with_reducible repeat (first | apply Kd.R_alloc | apply Kd.R_drewN | apply Kd.R_drew)); exact HO1170.out) (Kd.R_base ho0) hb); have n1_ := Aside0.mk (Kd.R_lower (Kd.R_new' ho0 (Kd.R_lt (by (with_reducible repeat (first | apply Kd.R_alloc | apply Kd.R_drewN | apply Kd.R_drew)); exact HO1170.out))) (below_size (by repeat (first | (with_reducible first | exact HB.out | apply below_alloc | apply pw_below_drewN | apply below_drew1) | exact HB.out)))); have n2_ := Aside0.mk (below_step (by repeat (first | (with_reducible first | exact HB.out | apply below_alloc | apply pw_below_drewN | apply below_drew1) | exact HB.out)) hb); clear HO1170; clear HB; have HO1170 := n0_; have HO1173 := n1_; have HB := n2_; clear n0_ n1_ n2_; (try clear hb); (try clear hb2); (try clear hk); (try clear hi); (try clear ho0); obtain ⟨Ao24, co24, eo24⟩ := Kd.R_slice HO1170.out; subst eo24; obtain ⟨Ao25, co25, eo25⟩ := Kd.R_slice HO1173.out; subst eo25) | ((with_reducible refine gate_callee (f := 50) rfl ?_); refine goesL_ (some 51) rfl rfl Try.func50 (by kernel_rfl) rfl #[.string a0, .int .i64 a1, .int .i64 a2, .string a3, .slice Ao24 t1168.length co24, .string a5, .slice Ao25 t1171.length co25] rfl (by (try simp only [List.map_toArray, List.map_cons, List.map_nil]); first | done | rfl | (simp only [List.length_drop, List.length_take]; rfl)) ?_; (with_reducible refine (spec_ExtractCollision.calls k a0 a1 a2 a3 _ _ t1168 a5 _ _ t1171 t1174 t1175 t1176 _ ?side1 ?side2 ?side3 ?side4 A17.out).mono ?_); (case side1 => repeat (first | exact (Kd.R_reads' HO1170.out).2.2 | (with_reducible refine Kd.C_alloc ?_ _) | (with_reducible refine Kd.C_drewN ?_ _) | (with_reducible refine Kd.C_drew ?_))); (case side2 => exact (Kd.R_reads' HO1170.out).2.1); (case side3 => repeat (first | exact (Kd.R_reads' HO1173.out).2.2 | (with_reducible refine Kd.C_alloc ?_ _) | (with_reducible refine Kd.C_drewN ?_ _) | (with_reducible refine Kd.C_drew ?_))); (case side4 => exact (Kd.R_reads' HO1173.out).2.1); rintro e w26 ⟨rfl, hb⟩; refine ⟨_, rfl, ?_⟩; have n0_ := Aside0.mk (Kd.R_below (by (with_reducible repeat (first | apply Kd.R_alloc | apply Kd.R_drewN | apply Kd.R_drew)); exact HO1170.out) hb); have n1_ := Aside0.mk (Kd.R_below (by (with_reducible repeat (first | apply Kd.R_alloc | apply Kd.R_drewN | apply Kd.R_drew)); exact HO1173.out) hb); have n2_ := Aside0.mk (below_step (by repeat (first | (with_reducible first | exact HB.out | apply below_alloc | apply pw_below_drewN | apply below_drew1) | exact HB.out)) hb); clear HO1170; clear HO1173; clear HB; have HO1170 := n0_; have HO1173 := n1_; have HB := n2_; clear n0_ n1_ n2_; (try clear hb); (try clear hb2); (try clear hk); (try clear hi)) | ((with_reducible refine gate_dst (N := 16) rfl ?_); refine box_event ?hg (N := 16) ?hd (cs := #[.string (⟨#[]⟩ : ByteArray), .string (⟨#[]⟩ : ByteArray)]) (t := 54) ?hr ?_; (case hd => rfl); (case hg => rfl); (case hr => first | (go_simp; done) | (go_simp; rfl)); intro gb1177 hg w27 hbox hb; have n0_ := Aside0.mk (Kd.R_below (by (with_reducible repeat (first | apply Kd.R_alloc | apply Kd.R_drewN | apply Kd.R_drew)); exact HO1170.out) hb); have n1_ := Aside0.mk (Kd.R_below (by (with_reducible repeat (first | apply Kd.R_alloc | apply Kd.R_drewN | apply Kd.R_drew)); exact HO1173.out) hb); have n2_ := Aside0.mk (below_step (by repeat (first | (with_reducible first | exact HB.out | apply below_alloc | apply pw_below_drewN | apply below_drew1) | exact HB.out)) hb); have n3_ := Aside0.mk (hbox); have n4_ := Aside0.mk ((by rw [hg]; exact (below_size (by repeat (first | (with_reducible first | exact HB.out | apply below_alloc | apply pw_below_drewN | apply below_drew1) | exact HB.out))) : w.heap.size ≤ gb1177)); have n5_ := Aside0.mk ((by rw [hg]; exact (below_size (by repeat (first | (with_reducible first | exact HB.out | apply below_alloc | apply pw_below_drewN | apply below_drew1) | exact HB.out))) : w.heap.size ≤ gb1177)); clear HO1170; clear HO1173; clear HB; have HO1170 := n0_; have HO1173 := n1_; have HB := n2_; have BK1177 := n3_; have GW1177 := n4_; have GE1177 := n5_; clear n0_ n1_ n2_ n3_ n4_ n5_; clear hb hbox hg; have hcz28_0 : w27.cell? ⟨gb1177, 0, none⟩ = some (.string (⟨#[]⟩ : ByteArray)) := (blk_cell BK1177.out 0).trans rfl; have hcz28_1 : w27.cell? ⟨gb1177, 1, none⟩ = some (.string (⟨#[]⟩ : ByteArray)) := (blk_cell BK1177.out 1).trans rfl; have hfz28_0 := blk_frozen BK1177.out 0; have hfz28_1 := blk_frozen BK1177.out 1) | ((with_reducible refine gate_callee (f := 41) rfl ?_); refine goesL_ (some 55) rfl rfl Try.func41 (by kernel_rfl) rfl #[.slice A4 l4.length c4] rfl (by (try simp only [List.map_toArray, List.map_cons, List.map_nil]); first | done | rfl | (simp only [List.length_drop, List.length_take]; rfl)) ?_; (with_reducible refine (laws_toStringS.calls k _ _ l4 t1178 _ ?side1 ?side2 A18.out).mono ?_); (case side1 => exact Kd.C_below HR4.out (by repeat (first | (with_reducible first | exact HB.out | apply below_alloc | apply pw_below_drewN | apply below_drew1 | refine below_set ?_ GE1177.out) | exact HB.out))); (case side2 => exact HC4.out); rintro e w29 ⟨v1179, rfl, ho0, hb⟩; refine ⟨_, rfl, ?_⟩; have n0_ := Aside0.mk (Kd.R_elder' (by (with_reducible repeat (first | apply Kd.R_alloc | apply Kd.R_drewN | apply Kd.R_drew)); exact (Kd.R_mono (Kd.R_far (p := ⟨gb1177, 1, none⟩) (Kd.R_far (p := ⟨gb1177, 0, none⟩) (Kd.R_types HO1170.out BK1177.out (by decide)) (fun _ hk => hk.2) (.string t1174)) (fun _ hk => hk.2) (.string t1175)) (fun _ h_ => h_.1))) (Kd.R_base ho0) hb); have n1_ := Aside0.mk (Kd.R_elder' (by (with_reducible repeat (first | apply Kd.R_alloc | apply Kd.R_drewN | apply Kd.R_drew)); exact (Kd.R_mono (Kd.R_far (p := ⟨gb1177, 1, none⟩) (Kd.R_far (p := ⟨gb1177, 0, none⟩) (Kd.R_types HO1173.out BK1177.out (by decide)) (fun _ hk => hk.2) (.string t1174)) (fun _ hk => hk.2) (.string t1175)) (fun _ h_ => h_.1))) (Kd.R_base ho0) hb); have n2_ := Aside0.mk (Kd.R_lower (Kd.R_new' (Kd.R_new' ho0 (Kd.R_lt (by (with_reducible repeat (first | apply Kd.R_alloc | apply Kd.R_drewN | apply Kd.R_drew)); exact (Kd.R_mono (Kd.R_far (p := ⟨gb1177, 1, none⟩) (Kd.R_far (p := ⟨gb1177, 0, none⟩) (Kd.R_types HO1170.out BK1177.out (by decide)) (fun _ hk => hk.2) (.string t1174)) (fun _ hk => hk.2) (.string t1175)) (fun _ h_ => h_.1))))) (Kd.R_lt (by (with_reducible repeat (first | apply Kd.R_alloc | apply Kd.R_drewN | apply Kd.R_drew)); exact (Kd.R_mono (Kd.R_far (p := ⟨gb1177, 1, none⟩) (Kd.R_far (p := ⟨gb1177, 0, none⟩) (Kd.R_types HO1173.out BK1177.out (by decide)) (fun _ hk => hk.2) (.string t1174)) (fun _ hk => hk.2) (.string t1175)) (fun _ h_ => h_.1))))) (below_size (by repeat (first | (with_reducible first | exact HB.out | apply below_alloc | apply pw_below_drewN | apply below_drew1 | refine below_set ?_ GE1177.out) | exact HB.out)))); have n3_ := Aside0.mk (blk_below (g := gb1177) (o := .cells #[.string t1174, .string t1175] 54 (0, 0)) (by (with_reducible repeat (first | apply bN | apply bd | apply bA)); refine blk_put (cs := #[.string t1174, .string (⟨#[]⟩ : ByteArray)]) ?_ 1 _ rfl; (with_reducible repeat (first | apply bN | apply bd | apply bA)); refine blk_put (cs := #[.string (⟨#[]⟩ : ByteArray), .string (⟨#[]⟩ : ByteArray)]) ?_ 0 _ rfl; (with_reducible repeat (first | apply bN | apply bd | apply bA)); exact BK1177.out) hb); have n4_ := Aside0.mk (below_step (by repeat (first | (with_reducible first | exact HB.out | apply below_alloc | apply pw_below_drewN | apply below_drew1 | refine below_set ?_ GE1177.out) | exact HB.out)) hb); clear HO1170; clear HO1173; clear BK1177; clear HB; have HO1170 := n0_; have HO1173 := n1_; have HO1180 := n2_; have BK1177 := n3_; have HB := n4_; clear n0_ n1_ n2_ n3_ n4_; (try clear hb); (try clear hb2); (try clear hk); (try clear hi); (try clear ho0)) | ((with_reducible refine gate_callee (f := 41) rfl ?_); refine goesL_ (some 57) rfl rfl Try.func41 (by kernel_rfl) rfl #[.slice A6 l6.length c6] rfl (by (try simp only [List.map_toArray, List.map_cons, List.map_nil]); first | done | rfl | (simp only [List.length_drop, List.length_take]; rfl)) ?_; (with_reducible refine (laws_toStringS.calls k _ _ l6 t1181 _ ?side1 ?side2 A19.out).mono ?_); (case side1 => repeat (first | exact (Kd.C_below HR6.out HB.out) | (with_reducible refine Kd.C_alloc ?_ _) | (with_reducible refine Kd.C_drewN ?_ _) | (with_reducible refine Kd.C_drew ?_))); (case side2 => exact HC6.out); rintro e w30 ⟨v1182, rfl, ho0, hb⟩; refine ⟨_, rfl, ?_⟩; have n0_ := Aside0.mk (Kd.R_elder' (by (with_reducible repeat (first | apply Kd.R_alloc | apply Kd.R_drewN | apply Kd.R_drew)); exact HO1170.out) (Kd.R_base ho0) hb); have n1_ := Aside0.mk (Kd.R_elder' (by (with_reducible repeat (first | apply Kd.R_alloc | apply Kd.R_drewN | apply Kd.R_drew)); exact HO1173.out) (Kd.R_base ho0) hb); have n2_ := Aside0.mk (Kd.R_elder' (by (with_reducible repeat (first | apply Kd.R_alloc | apply Kd.R_drewN | apply Kd.R_drew)); exact HO1180.out) (Kd.R_base ho0) hb); have n3_ := Aside0.mk (Kd.R_lower (Kd.R_new' (Kd.R_new' (Kd.R_new' ho0 (Kd.R_lt (by (with_reducible repeat (first | apply Kd.R_alloc | apply Kd.R_drewN | apply Kd.R_drew)); exact HO1170.out))) (Kd.R_lt (by (with_reducible repeat (first | apply Kd.R_alloc | apply Kd.R_drewN | apply Kd.R_drew)); exact HO1173.out))) (Kd.R_lt (by (with_reducible repeat (first | apply Kd.R_alloc | apply Kd.R_drewN | apply Kd.R_drew)); exact HO1180.out))) (below_size (by repeat (first | (with_reducible first | exact HB.out | apply below_alloc | apply pw_below_drewN | apply below_drew1 | refine below_set ?_ GE1177.out) | exact HB.out)))); have n4_ := Aside0.mk (blk_below (g := gb1177) (o := .cells #[.string t1174, .string t1175] 54 (0, 0)) (by (with_reducible repeat (first | apply bN | apply bd | apply bA)); exact BK1177.out) hb); have n5_ := Aside0.mk (below_step (by repeat (first | (with_reducible first | exact HB.out | apply below_alloc | apply pw_below_drewN | apply below_drew1 | refine below_set ?_ GE1177.out) | exact HB.out)) hb); clear HO1170; clear HO1173; clear HO1180; clear BK1177; clear HB; have HO1170 := n0_; have HO1173 := n1_; have HO1180 := n2_; have HO1183 := n3_; have BK1177 := n4_; have HB := n5_; clear n0_ n1_ n2_ n3_ n4_ n5_; (try clear hb); (try clear hb2); (try clear hk); (try clear hi); (try clear ho0); obtain ⟨Ao31, co31, eo31⟩ := Kd.R_slice HO1180.out; subst eo31; obtain ⟨Ao32, co32, eo32⟩ := Kd.R_slice HO1183.out; subst eo32) | ((with_reducible refine gate_callee (f := 51) rfl ?_); refine goesL_ (some 66) rfl rfl Try.func51 (by kernel_rfl) rfl #[.string a0, .int .i64 a1, .int .i64 a2, .string a3, .slice Ao31 t1178.length co31, .string a5, .slice Ao32 t1181.length co32] rfl (by (try simp only [List.map_toArray, List.map_cons, List.map_nil]); first | done | rfl | (simp only [List.length_drop, List.length_take]; rfl)) ?_; (with_reducible refine (impl_ExtractCollision.calls k a0 a1 a2 a3 _ _ t1178 a5 _ _ t1181 t1184 t1185 t1186 _ ?side1 ?side2 ?side3 ?side4 A20.out).mono ?_); (case side1 => repeat (first | exact (Kd.R_reads' HO1180.out).2.2 | (with_reducible refine Kd.C_alloc ?_ _) | (with_reducible refine Kd.C_drewN ?_ _) | (with_reducible refine Kd.C_drew ?_))); (case side2 => exact (Kd.R_reads' HO1180.out).2.1); (case side3 => repeat (first | exact (Kd.R_reads' HO1183.out).2.2 | (with_reducible refine Kd.C_alloc ?_ _) | (with_reducible refine Kd.C_drewN ?_ _) | (with_reducible refine Kd.C_drew ?_))); (case side4 => exact (Kd.R_reads' HO1183.out).2.1); rintro e w33 ⟨rfl, hb⟩; refine ⟨_, rfl, ?_⟩; have n0_ := Aside0.mk (Kd.R_below (by (with_reducible repeat (first | apply Kd.R_alloc | apply Kd.R_drewN | apply Kd.R_drew)); exact HO1170.out) hb); have n1_ := Aside0.mk (Kd.R_below (by (with_reducible repeat (first | apply Kd.R_alloc | apply Kd.R_drewN | apply Kd.R_drew)); exact HO1173.out) hb); have n2_ := Aside0.mk (Kd.R_below (by (with_reducible repeat (first | apply Kd.R_alloc | apply Kd.R_drewN | apply Kd.R_drew)); exact HO1180.out) hb); have n3_ := Aside0.mk (Kd.R_below (by (with_reducible repeat (first | apply Kd.R_alloc | apply Kd.R_drewN | apply Kd.R_drew)); exact HO1183.out) hb); have n4_ := Aside0.mk (blk_below (g := gb1177) (o := .cells #[.string t1174, .string t1175] 54 (0, 0)) (by (with_reducible repeat (first | apply bN | apply bd | apply bA)); exact BK1177.out) hb); have n5_ := Aside0.mk (below_step (by repeat (first | (with_reducible first | exact HB.out | apply below_alloc | apply pw_below_drewN | apply below_drew1 | refine below_set ?_ GE1177.out) | exact HB.out)) hb); clear HO1170; clear HO1173; clear HO1180; clear HO1183; clear BK1177; clear HB; have HO1170 := n0_; have HO1173 := n1_; have HO1180 := n2_; have HO1183 := n3_; have BK1177 := n4_; have HB := n5_; clear n0_ n1_ n2_ n3_ n4_ n5_; (try clear hb); (try clear hb2); (try clear hk); (try clear hi)) | ((with_reducible refine gate_dst (N := 20) rfl ?_); refine box_event ?hg (N := 20) ?hd (cs := #[.string (⟨#[]⟩ : ByteArray), .string (⟨#[]⟩ : ByteArray)]) (t := 54) ?hr ?_; (case hd => rfl); (case hg => rfl); (case hr => first | (go_simp; done) | (go_simp; rfl)); intro gb1187 hg w34 hbox hb; have n0_ := Aside0.mk (Kd.R_below (by (with_reducible repeat (first | apply Kd.R_alloc | apply Kd.R_drewN | apply Kd.R_drew)); exact HO1170.out) hb); have n1_ := Aside0.mk (Kd.R_below (by (with_reducible repeat (first | apply Kd.R_alloc | apply Kd.R_drewN | apply Kd.R_drew)); exact HO1173.out) hb); have n2_ := Aside0.mk (Kd.R_below (by (with_reducible repeat (first | apply Kd.R_alloc | apply Kd.R_drewN | apply Kd.R_drew)); exact HO1180.out) hb); have n3_ := Aside0.mk (Kd.R_below (by (with_reducible repeat (first | apply Kd.R_alloc | apply Kd.R_drewN | apply Kd.R_drew)); exact HO1183.out) hb); have n4_ := Aside0.mk (blk_below (g := gb1177) (o := .cells #[.string t1174, .string t1175] 54 (0, 0)) (by (with_reducible repeat (first | apply bN | apply bd | apply bA)); exact BK1177.out) hb); have n5_ := Aside0.mk (below_step (by repeat (first | (with_reducible first | exact HB.out | apply below_alloc | apply pw_below_drewN | apply below_drew1 | refine below_set ?_ GE1177.out) | exact HB.out)) hb); have n6_ := Aside0.mk (hbox); have n7_ := Aside0.mk ((by rw [hg]; exact (below_size (by repeat (first | (with_reducible first | exact HB.out | apply below_alloc | apply pw_below_drewN | apply below_drew1 | refine below_set ?_ GE1177.out) | exact HB.out))) : w.heap.size ≤ gb1187)); have n8_ := Aside0.mk ((by rw [hg]; exact (below_size (by repeat (first | (with_reducible first | exact HB.out | apply below_alloc | apply pw_below_drewN | apply below_drew1 | refine below_set ?_ GE1177.out) | exact HB.out))) : w.heap.size ≤ gb1187)); have n9_ := Aside0.mk ((by rw [hg]; exact Nat.ne_of_lt (blk_lt (g := gb1177) (o := .cells #[.string t1174, .string t1175] 54 (0, 0)) (by (with_reducible repeat (first | apply bN | apply bd | apply bA)); exact BK1177.out)) : gb1177 ≠ gb1187)); have n10_ := Aside0.mk ((by rw [hg]; exact Nat.ne_of_gt (blk_lt (g := gb1177) (o := .cells #[.string t1174, .string t1175] 54 (0, 0)) (by (with_reducible repeat (first | apply bN | apply bd | apply bA)); exact BK1177.out)) : gb1187 ≠ gb1177)); clear HO1170; clear HO1173; clear HO1180; clear HO1183; clear BK1177; clear HB; have HO1170 := n0_; have HO1173 := n1_; have HO1180 := n2_; have HO1183 := n3_; have BK1177 := n4_; have HB := n5_; have BK1187 := n6_; have GW1187 := n7_; have GE1187 := n8_; have NB1177_1187 := n9_; have NB1187_1177 := n10_; clear n0_ n1_ n2_ n3_ n4_ n5_ n6_ n7_ n8_ n9_ n10_; clear hb hbox hg; have hnb35 := NB1187_1177.out; have hnc35 := NB1177_1187.out; have hcz36_0 : w34.cell? ⟨gb1187, 0, none⟩ = some (.string (⟨#[]⟩ : ByteArray)) := (blk_cell BK1187.out 0).trans rfl; have hcz36_1 : w34.cell? ⟨gb1187, 1, none⟩ = some (.string (⟨#[]⟩ : ByteArray)) := (blk_cell BK1187.out 1).trans rfl; have hfz36_0 := blk_frozen BK1187.out 0; have hfz36_1 := blk_frozen BK1187.out 1))
            (try simp only [Act.put, List.setIfInBounds_toArray, List.set_cons_zero, List.set_cons_succ])
            go_cut [77] (fun v77 wc => ∃ (kq : Nat) (x77_20 : Bool), v77 = .bool x77_20 ∧ Aside0 (laws_FnExactExtractCollision.j0 kq l4 l6 t1178 t1181 x77_20 = some r) ∧ Aside0 (kq ≤ k) ∧ Aside0 (Kd.R Kd.string 9 wc w.heap.size (fun k_ => some k_ ≠ ((.slice Ao32 t1181.length co32) : Value).ownBlock) (.slice Ao31 t1178.length co31) t1178) ∧ Aside0 (Kd.R Kd.string 9 wc w.heap.size (fun k_ => some k_ ≠ ((.slice Ao31 t1178.length co31) : Value).ownBlock) (.slice Ao32 t1181.length co32) t1181) ∧ Aside0 (wc.heap[gb1177]? = some (.cells #[.string t1174, .string t1175] 54 (0, 0))) ∧ Aside0 (wc.heap[gb1187]? = some (.cells #[.string t1184, .string t1185] 54 (0, 0))) ∧ Aside0 (Below w.heap.size w wc))
            case first =>
              have H := HC21.out
              clear HC21
              replace H := Option.bind_eq_some_iff.mp H
              obtain ⟨t1188, A370, H⟩ := H
              replace H : (if t1188 = true then (laws_FnExactExtractCollision.j0 k l4 l6 t1178 t1181 (t1186 != t1176)) else (laws_FnExactExtractCollision.j0 k l4 l6 t1178 t1181 true)) = some r := H
              have A37 := Aside0.mk A370
              clear A370
              by_cases c38 : t1188 = true
              · subst c38
                have H1 : (laws_FnExactExtractCollision.j0 k l4 l6 t1178 t1181 (t1186 != t1176)) = some r := by rw [if_pos rfl] at H; exact H
                clear H
                have H := H1
                clear H1
                have H' := Aside0.mk H
                clear H
                have hnb39 := NB1187_1177.out
                have hnc39 := NB1177_1187.out
                have hcz40_0 : w34.cell? ⟨gb1187, 0, none⟩ = some (.string (⟨#[]⟩ : ByteArray)) := (blk_cell BK1187.out 0).trans rfl
                have hcz40_1 : w34.cell? ⟨gb1187, 1, none⟩ = some (.string (⟨#[]⟩ : ByteArray)) := (blk_cell BK1187.out 1).trans rfl
                have hfz40_0 := blk_frozen BK1187.out 0
                have hfz40_1 := blk_frozen BK1187.out 1
                have hcz41_0 : w34.cell? ⟨gb1177, 0, none⟩ = some (.string t1174) := (blk_cell BK1177.out 0).trans rfl
                have hcz41_1 : w34.cell? ⟨gb1177, 1, none⟩ = some (.string t1175) := (blk_cell BK1177.out 1).trans rfl
                have hfz41_0 := blk_frozen BK1177.out 0
                have hfz41_1 := blk_frozen BK1177.out 1
                go_wp2_with (first | ((with_reducible refine gate_callee (f := 52) rfl ?_); refine goesL_ (some 71) rfl rfl Try.func52 (by kernel_rfl) rfl #[.agg #[.string t1184, .string t1185], .agg #[.string t1174, .string t1175]] rfl (by (try simp only [List.map_toArray, List.map_cons, List.map_nil]); first | done | rfl | (simp only [List.length_drop, List.length_take]; rfl)) ?_; (with_reducible refine (laws_eqCollision.calls t1184 t1185 t1174 t1175 true _ A37.out).mono ?_); rintro e w42 ⟨rfl, hb⟩; refine ⟨_, rfl, ?_⟩; have n0_ := Aside0.mk (Kd.R_below (by (with_reducible repeat (first | apply Kd.R_alloc | apply Kd.R_drewN | apply Kd.R_drew)); exact (Kd.R_mono (Kd.R_far (p := ⟨gb1187, 1, none⟩) (Kd.R_far (p := ⟨gb1187, 0, none⟩) (Kd.R_types HO1170.out BK1187.out (by decide)) (fun _ hk => hk.2) (.string t1184)) (fun _ hk => hk.2) (.string t1185)) (fun _ h_ => h_.1))) hb); have n1_ := Aside0.mk (Kd.R_below (by (with_reducible repeat (first | apply Kd.R_alloc | apply Kd.R_drewN | apply Kd.R_drew)); exact (Kd.R_mono (Kd.R_far (p := ⟨gb1187, 1, none⟩) (Kd.R_far (p := ⟨gb1187, 0, none⟩) (Kd.R_types HO1173.out BK1187.out (by decide)) (fun _ hk => hk.2) (.string t1184)) (fun _ hk => hk.2) (.string t1185)) (fun _ h_ => h_.1))) hb); have n2_ := Aside0.mk (Kd.R_below (by (with_reducible repeat (first | apply Kd.R_alloc | apply Kd.R_drewN | apply Kd.R_drew)); exact (Kd.R_mono (Kd.R_far (p := ⟨gb1187, 1, none⟩) (Kd.R_far (p := ⟨gb1187, 0, none⟩) (Kd.R_types HO1180.out BK1187.out (by decide)) (fun _ hk => hk.2) (.string t1184)) (fun _ hk => hk.2) (.string t1185)) (fun _ h_ => h_.1))) hb); have n3_ := Aside0.mk (Kd.R_below (by (with_reducible repeat (first | apply Kd.R_alloc | apply Kd.R_drewN | apply Kd.R_drew)); exact (Kd.R_mono (Kd.R_far (p := ⟨gb1187, 1, none⟩) (Kd.R_far (p := ⟨gb1187, 0, none⟩) (Kd.R_types HO1183.out BK1187.out (by decide)) (fun _ hk => hk.2) (.string t1184)) (fun _ hk => hk.2) (.string t1185)) (fun _ h_ => h_.1))) hb); have n4_ := Aside0.mk (blk_below (g := gb1177) (o := .cells #[.string t1174, .string t1175] 54 (0, 0)) (by (with_reducible repeat (first | apply bN | apply bd | apply bA)); refine blk_far ?_ NB1177_1187.out _; (with_reducible repeat (first | apply bN | apply bd | apply bA)); refine blk_far ?_ NB1177_1187.out _; (with_reducible repeat (first | apply bN | apply bd | apply bA)); exact BK1177.out) hb); have n5_ := Aside0.mk (blk_below (g := gb1187) (o := .cells #[.string t1184, .string t1185] 54 (0, 0)) (by (with_reducible repeat (first | apply bN | apply bd | apply bA)); refine blk_put (cs := #[.string t1184, .string (⟨#[]⟩ : ByteArray)]) ?_ 1 _ rfl; (with_reducible repeat (first | apply bN | apply bd | apply bA)); refine blk_put (cs := #[.string (⟨#[]⟩ : ByteArray), .string (⟨#[]⟩ : ByteArray)]) ?_ 0 _ rfl; (with_reducible repeat (first | apply bN | apply bd | apply bA)); exact BK1187.out) hb); have n6_ := Aside0.mk (below_step (by repeat (first | (with_reducible first | exact HB.out | apply below_alloc | apply pw_below_drewN | apply below_drew1 | refine below_set ?_ GE1177.out | refine below_set ?_ GE1187.out) | exact HB.out)) hb); clear HO1170; clear HO1173; clear HO1180; clear HO1183; clear BK1177; clear BK1187; clear HB; have HO1170 := n0_; have HO1173 := n1_; have HO1180 := n2_; have HO1183 := n3_; have BK1177 := n4_; have BK1187 := n5_; have HB := n6_; clear n0_ n1_ n2_ n3_ n4_ n5_ n6_; (try clear hb); (try clear hb2); (try clear hk); (try clear hi)))
                go_meet
                case rel => exact ⟨_, ((t1186 != t1176)), (by first | rfl | (simp; done) | (simp [*]; done)), H', ⟨by first | omega | exact Nat.le_refl _⟩, ⟨by (with_reducible repeat (first | apply Kd.R_alloc | apply Kd.R_drewN | apply Kd.R_drew)); exact Kd.R_mono HO1180.out (fun _ hk => hk.2)⟩, ⟨by (with_reducible repeat (first | apply Kd.R_alloc | apply Kd.R_drewN | apply Kd.R_drew)); exact Kd.R_mono HO1183.out (fun _ hk => hk.2)⟩, ⟨by (with_reducible repeat (first | apply bN | apply bd | apply bA)); exact BK1177.out⟩, ⟨by (with_reducible repeat (first | apply bN | apply bd | apply bA)); exact BK1187.out⟩, ⟨by repeat (first | (with_reducible first | exact HB.out | apply below_alloc | apply pw_below_drewN | apply below_drew1 | refine below_set ?_ GE1177.out | refine below_set ?_ GE1187.out) | exact HB.out)⟩⟩
              · replace c38 := Bool.eq_false_iff.mpr c38
                subst c38
                have H1 : (laws_FnExactExtractCollision.j0 k l4 l6 t1178 t1181 true) = some r := by rw [if_neg (show ¬ (false = true) by decide)] at H; exact H
                clear H
                have H := H1
                clear H1
                have H' := Aside0.mk H
                clear H
                have hnb43 := NB1187_1177.out
                have hnc43 := NB1177_1187.out
                have hcz44_0 : w34.cell? ⟨gb1187, 0, none⟩ = some (.string (⟨#[]⟩ : ByteArray)) := (blk_cell BK1187.out 0).trans rfl
                have hcz44_1 : w34.cell? ⟨gb1187, 1, none⟩ = some (.string (⟨#[]⟩ : ByteArray)) := (blk_cell BK1187.out 1).trans rfl
                have hfz44_0 := blk_frozen BK1187.out 0
                have hfz44_1 := blk_frozen BK1187.out 1
                have hcz45_0 : w34.cell? ⟨gb1177, 0, none⟩ = some (.string t1174) := (blk_cell BK1177.out 0).trans rfl
                have hcz45_1 : w34.cell? ⟨gb1177, 1, none⟩ = some (.string t1175) := (blk_cell BK1177.out 1).trans rfl
                have hfz45_0 := blk_frozen BK1177.out 0
                have hfz45_1 := blk_frozen BK1177.out 1
                go_wp2_with (first | ((with_reducible refine gate_callee (f := 52) rfl ?_); refine goesL_ (some 71) rfl rfl Try.func52 (by kernel_rfl) rfl #[.agg #[.string t1184, .string t1185], .agg #[.string t1174, .string t1175]] rfl (by (try simp only [List.map_toArray, List.map_cons, List.map_nil]); first | done | rfl | (simp only [List.length_drop, List.length_take]; rfl)) ?_; (with_reducible refine (laws_eqCollision.calls t1184 t1185 t1174 t1175 false _ A37.out).mono ?_); rintro e w46 ⟨rfl, hb⟩; refine ⟨_, rfl, ?_⟩; have n0_ := Aside0.mk (Kd.R_below (by (with_reducible repeat (first | apply Kd.R_alloc | apply Kd.R_drewN | apply Kd.R_drew)); exact (Kd.R_mono (Kd.R_far (p := ⟨gb1187, 1, none⟩) (Kd.R_far (p := ⟨gb1187, 0, none⟩) (Kd.R_types HO1170.out BK1187.out (by decide)) (fun _ hk => hk.2) (.string t1184)) (fun _ hk => hk.2) (.string t1185)) (fun _ h_ => h_.1))) hb); have n1_ := Aside0.mk (Kd.R_below (by (with_reducible repeat (first | apply Kd.R_alloc | apply Kd.R_drewN | apply Kd.R_drew)); exact (Kd.R_mono (Kd.R_far (p := ⟨gb1187, 1, none⟩) (Kd.R_far (p := ⟨gb1187, 0, none⟩) (Kd.R_types HO1173.out BK1187.out (by decide)) (fun _ hk => hk.2) (.string t1184)) (fun _ hk => hk.2) (.string t1185)) (fun _ h_ => h_.1))) hb); have n2_ := Aside0.mk (Kd.R_below (by (with_reducible repeat (first | apply Kd.R_alloc | apply Kd.R_drewN | apply Kd.R_drew)); exact (Kd.R_mono (Kd.R_far (p := ⟨gb1187, 1, none⟩) (Kd.R_far (p := ⟨gb1187, 0, none⟩) (Kd.R_types HO1180.out BK1187.out (by decide)) (fun _ hk => hk.2) (.string t1184)) (fun _ hk => hk.2) (.string t1185)) (fun _ h_ => h_.1))) hb); have n3_ := Aside0.mk (Kd.R_below (by (with_reducible repeat (first | apply Kd.R_alloc | apply Kd.R_drewN | apply Kd.R_drew)); exact (Kd.R_mono (Kd.R_far (p := ⟨gb1187, 1, none⟩) (Kd.R_far (p := ⟨gb1187, 0, none⟩) (Kd.R_types HO1183.out BK1187.out (by decide)) (fun _ hk => hk.2) (.string t1184)) (fun _ hk => hk.2) (.string t1185)) (fun _ h_ => h_.1))) hb); have n4_ := Aside0.mk (blk_below (g := gb1177) (o := .cells #[.string t1174, .string t1175] 54 (0, 0)) (by (with_reducible repeat (first | apply bN | apply bd | apply bA)); refine blk_far ?_ NB1177_1187.out _; (with_reducible repeat (first | apply bN | apply bd | apply bA)); refine blk_far ?_ NB1177_1187.out _; (with_reducible repeat (first | apply bN | apply bd | apply bA)); exact BK1177.out) hb); have n5_ := Aside0.mk (blk_below (g := gb1187) (o := .cells #[.string t1184, .string t1185] 54 (0, 0)) (by (with_reducible repeat (first | apply bN | apply bd | apply bA)); refine blk_put (cs := #[.string t1184, .string (⟨#[]⟩ : ByteArray)]) ?_ 1 _ rfl; (with_reducible repeat (first | apply bN | apply bd | apply bA)); refine blk_put (cs := #[.string (⟨#[]⟩ : ByteArray), .string (⟨#[]⟩ : ByteArray)]) ?_ 0 _ rfl; (with_reducible repeat (first | apply bN | apply bd | apply bA)); exact BK1187.out) hb); have n6_ := Aside0.mk (below_step (by repeat (first | (with_reducible first | exact HB.out | apply below_alloc | apply pw_below_drewN | apply below_drew1 | refine below_set ?_ GE1177.out | refine below_set ?_ GE1187.out) | exact HB.out)) hb); clear HO1170; clear HO1173; clear HO1180; clear HO1183; clear BK1177; clear BK1187; clear HB; have HO1170 := n0_; have HO1173 := n1_; have HO1180 := n2_; have HO1183 := n3_; have BK1177 := n4_; have BK1187 := n5_; have HB := n6_; clear n0_ n1_ n2_ n3_ n4_ n5_ n6_; (try clear hb); (try clear hb2); (try clear hk); (try clear hi)))
                go_meet
                case rel => exact ⟨_, (true), (by first | rfl | (simp; done) | (simp [*]; done)), H', ⟨by first | omega | exact Nat.le_refl _⟩, ⟨by (with_reducible repeat (first | apply Kd.R_alloc | apply Kd.R_drewN | apply Kd.R_drew)); exact Kd.R_mono HO1180.out (fun _ hk => hk.2)⟩, ⟨by (with_reducible repeat (first | apply Kd.R_alloc | apply Kd.R_drewN | apply Kd.R_drew)); exact Kd.R_mono HO1183.out (fun _ hk => hk.2)⟩, ⟨by (with_reducible repeat (first | apply bN | apply bd | apply bA)); exact BK1177.out⟩, ⟨by (with_reducible repeat (first | apply bN | apply bd | apply bA)); exact BK1187.out⟩, ⟨by repeat (first | (with_reducible first | exact HB.out | apply below_alloc | apply pw_below_drewN | apply below_drew1 | refine below_set ?_ GE1177.out | refine below_set ?_ GE1187.out) | exact HB.out)⟩⟩
            case rest =>
              clear HC21
              try clear c1
              try clear p2
              try clear c3
              try clear c4
              try clear c5
              try clear c6
              try clear c8
              try clear c8b0
              try clear c8b1
              try clear c9
              try clear c9b0
              try clear c9b1
              try clear c10
              try clear c10b0
              try clear c10b1
              try clear c12
              try clear c12b0
              try clear c14
              try clear c14b0
              try clear c35
              try clear c38
              try clear c39
              try clear c41
              try clear c43
              try clear hcz28_0
              try clear hcz28_1
              try clear hcz36_0
              try clear hcz36_1
              try clear hcz40_0
              try clear hcz40_1
              try clear hcz41_0
              try clear hcz41_1
              try clear hcz44_0
              try clear hcz44_1
              try clear hcz45_0
              try clear hcz45_1
              try clear hfz28_0
              try clear hfz28_1
              try clear hfz36_0
              try clear hfz36_1
              try clear hfz40_0
              try clear hfz40_1
              try clear hfz41_0
              try clear hfz41_1
              try clear hfz44_0
              try clear hfz44_1
              try clear hfz45_0
              try clear hfz45_1
              obtain ⟨kq, x77_20, rfl, HA, HJ20, HO_18, HO_19, BK1177, BK1187, HB⟩ := hcut
              cases kq with
              | zero => exact absurd HA.out (by simp [laws_FnExactExtractCollision.j0])
              | succ kj20 =>
                have H := HA.out
                clear HA
                simp only [laws_FnExactExtractCollision.j0] at H
                by_cases c47 : x77_20 = true
                · subst c47
                  have H1 : (none) = some r := by rw [if_pos rfl] at H; exact H
                  clear H
                  have H := H1
                  clear H1
                  exact absurd H (by simp)
                · replace c47 := Bool.eq_false_iff.mpr c47
                  subst c47
                  have H1 : ((laws_toStringS.f kj20 l4).bind fun t1189 => ((laws_eqStringS.f kj20 t1178 t1189).bind fun t1192 => (if t1192 = true then ((laws_toStringS.f kj20 l6).bind fun t1193 => ((laws_eqStringS.f kj20 t1181 t1193).bind fun t1196 => (if t1196 = true then (some true) else (none)))) else (none)))) = some r := by rw [if_neg (show ¬ (false = true) by decide)] at H; exact H
                  clear H
                  have H := H1
                  clear H1
                  replace H := Option.bind_eq_some_iff.mp H
                  obtain ⟨t1189, A480, H⟩ := H
                  replace H : ((laws_eqStringS.f kj20 t1178 t1189).bind fun t1192 => (if t1192 = true then ((laws_toStringS.f kj20 l6).bind fun t1193 => ((laws_eqStringS.f kj20 t1181 t1193).bind fun t1196 => (if t1196 = true then (some true) else (none)))) else (none))) = some r := H
                  have A48 := Aside0.mk A480
                  clear A480
                  replace H := Option.bind_eq_some_iff.mp H
                  obtain ⟨t1192, A490, H⟩ := H
                  replace H : (if t1192 = true then ((laws_toStringS.f kj20 l6).bind fun t1193 => ((laws_eqStringS.f kj20 t1181 t1193).bind fun t1196 => (if t1196 = true then (some true) else (none)))) else (none)) = some r := H
                  have A49 := Aside0.mk A490
                  clear A490
                  by_cases c50 : t1192 = true
                  · subst c50
                    have H1 : ((laws_toStringS.f kj20 l6).bind fun t1193 => ((laws_eqStringS.f kj20 t1181 t1193).bind fun t1196 => (if t1196 = true then (some true) else (none)))) = some r := by rw [if_pos rfl] at H; exact H
                    clear H
                    have H := H1
                    clear H1
                    replace H := Option.bind_eq_some_iff.mp H
                    obtain ⟨t1193, A510, H⟩ := H
                    replace H : ((laws_eqStringS.f kj20 t1181 t1193).bind fun t1196 => (if t1196 = true then (some true) else (none))) = some r := H
                    have A51 := Aside0.mk A510
                    clear A510
                    replace H := Option.bind_eq_some_iff.mp H
                    obtain ⟨t1196, A520, H⟩ := H
                    replace H : (if t1196 = true then (some true) else (none)) = some r := H
                    have A52 := Aside0.mk A520
                    clear A520
                    by_cases c53 : t1196 = true
                    · subst c53
                      have H1 : (some true) = some r := by rw [if_pos rfl] at H; exact H
                      clear H
                      have H := H1
                      clear H1
                      obtain rfl := Option.some.inj H
                      go_wp2_with (first | ((with_reducible refine gate_callee (f := 41) rfl ?_); refine goesL_ (some 80) rfl rfl Try.func41 (by kernel_rfl) rfl #[.slice A4 l4.length c4] rfl (by (try simp only [List.map_toArray, List.map_cons, List.map_nil]); first | done | rfl | (simp only [List.length_drop, List.length_take]; rfl)) ?_; (with_reducible refine (laws_toStringS.calls kj20 _ _ l4 t1189 _ ?side1 ?side2 A48.out).mono ?_); (case side1 => repeat (first | exact (Kd.C_below HR4.out HB.out) | (with_reducible refine Kd.C_alloc ?_ _) | (with_reducible refine Kd.C_drewN ?_ _) | (with_reducible refine Kd.C_drew ?_))); (case side2 => exact HC4.out); rintro e w54 ⟨v1190, rfl, ho0, hb⟩; refine ⟨_, rfl, ?_⟩; have n0_ := Aside0.mk (Kd.R_elder' (by (with_reducible repeat (first | apply Kd.R_alloc | apply Kd.R_drewN | apply Kd.R_drew)); exact HO_18.out) (Kd.R_base ho0) hb); have n1_ := Aside0.mk (Kd.R_elder' (by (with_reducible repeat (first | apply Kd.R_alloc | apply Kd.R_drewN | apply Kd.R_drew)); exact HO_19.out) (Kd.R_base ho0) hb); have n2_ := Aside0.mk (Kd.R_lower (Kd.R_new' (Kd.R_new' ho0 (Kd.R_lt (by (with_reducible repeat (first | apply Kd.R_alloc | apply Kd.R_drewN | apply Kd.R_drew)); exact HO_18.out))) (Kd.R_lt (by (with_reducible repeat (first | apply Kd.R_alloc | apply Kd.R_drewN | apply Kd.R_drew)); exact HO_19.out))) (below_size (by repeat (first | (with_reducible first | exact HB.out | apply below_alloc | apply pw_below_drewN | apply below_drew1 | refine below_set ?_ GE1177.out | refine below_set ?_ GE1187.out) | exact HB.out)))); have n3_ := Aside0.mk (blk_below (g := gb1177) (o := .cells #[.string t1174, .string t1175] 54 (0, 0)) (by (with_reducible repeat (first | apply bN | apply bd | apply bA)); exact BK1177.out) hb); have n4_ := Aside0.mk (blk_below (g := gb1187) (o := .cells #[.string t1184, .string t1185] 54 (0, 0)) (by (with_reducible repeat (first | apply bN | apply bd | apply bA)); exact BK1187.out) hb); have n5_ := Aside0.mk (below_step (by repeat (first | (with_reducible first | exact HB.out | apply below_alloc | apply pw_below_drewN | apply below_drew1 | refine below_set ?_ GE1177.out | refine below_set ?_ GE1187.out) | exact HB.out)) hb); clear HO_18; clear HO_19; clear BK1177; clear BK1187; clear HB; have HO_18 := n0_; have HO_19 := n1_; have HO1191 := n2_; have BK1177 := n3_; have BK1187 := n4_; have HB := n5_; clear n0_ n1_ n2_ n3_ n4_ n5_; (try clear hb); (try clear hb2); (try clear hk); (try clear hi); (try clear ho0); obtain ⟨Ao55, co55, eo55⟩ := Kd.R_slice HO1191.out; subst eo55) | ((with_reducible refine gate_callee (f := 43) rfl ?_); refine goesL_ (some 81) rfl rfl Try.func43 (by kernel_rfl) rfl #[.slice Ao31 t1178.length co31, .slice Ao55 t1189.length co55] rfl (by (try simp only [List.map_toArray, List.map_cons, List.map_nil]); first | done | rfl | (simp only [List.length_drop, List.length_take]; rfl)) ?_; (with_reducible refine (laws_eqStringS.calls kj20 _ _ t1178 _ _ t1189 true _ ?side1 ?side2 ?side3 ?side4 A49.out).mono ?_); (case side1 => repeat (first | exact (Kd.R_reads' HO_18.out).2.2 | (with_reducible refine Kd.C_alloc ?_ _) | (with_reducible refine Kd.C_drewN ?_ _) | (with_reducible refine Kd.C_drew ?_))); (case side2 => exact (Kd.R_reads' HO_18.out).2.1); (case side3 => repeat (first | exact (Kd.R_reads' HO1191.out).2.2 | (with_reducible refine Kd.C_alloc ?_ _) | (with_reducible refine Kd.C_drewN ?_ _) | (with_reducible refine Kd.C_drew ?_))); (case side4 => exact (Kd.R_reads' HO1191.out).2.1); rintro e w' ⟨rfl, ⟨nd, rfl⟩⟩; refine ⟨_, rfl, ?_⟩) | ((with_reducible refine gate_callee (f := 41) rfl ?_); refine goesL_ (some 85) rfl rfl Try.func41 (by kernel_rfl) rfl #[.slice A6 l6.length c6] rfl (by (try simp only [List.map_toArray, List.map_cons, List.map_nil]); first | done | rfl | (simp only [List.length_drop, List.length_take]; rfl)) ?_; (with_reducible refine (laws_toStringS.calls kj20 _ _ l6 t1193 _ ?side1 ?side2 A51.out).mono ?_); (case side1 => repeat (first | exact (Kd.C_below HR6.out (by repeat (first | (with_reducible first | exact HB.out | apply below_alloc | apply pw_below_drewN | apply below_drew1 | refine below_set ?_ GE1177.out | refine below_set ?_ GE1187.out) | exact HB.out))) | (with_reducible refine Kd.C_alloc ?_ _) | (with_reducible refine Kd.C_drewN ?_ _) | (with_reducible refine Kd.C_drew ?_))); (case side2 => exact HC6.out); rintro e w56 ⟨v1194, rfl, ho0, hb⟩; refine ⟨_, rfl, ?_⟩; have n0_ := Aside0.mk (Kd.R_elder' (by (with_reducible repeat (first | apply Kd.R_alloc | apply Kd.R_drewN | apply Kd.R_drew)); exact HO_18.out) (Kd.R_base ho0) hb); have n1_ := Aside0.mk (Kd.R_elder' (by (with_reducible repeat (first | apply Kd.R_alloc | apply Kd.R_drewN | apply Kd.R_drew)); exact HO_19.out) (Kd.R_base ho0) hb); have n2_ := Aside0.mk (Kd.R_elder' (by (with_reducible repeat (first | apply Kd.R_alloc | apply Kd.R_drewN | apply Kd.R_drew)); exact HO1191.out) (Kd.R_base ho0) hb); have n3_ := Aside0.mk (Kd.R_lower (Kd.R_new' (Kd.R_new' (Kd.R_new' ho0 (Kd.R_lt (by (with_reducible repeat (first | apply Kd.R_alloc | apply Kd.R_drewN | apply Kd.R_drew)); exact HO_18.out))) (Kd.R_lt (by (with_reducible repeat (first | apply Kd.R_alloc | apply Kd.R_drewN | apply Kd.R_drew)); exact HO_19.out))) (Kd.R_lt (by (with_reducible repeat (first | apply Kd.R_alloc | apply Kd.R_drewN | apply Kd.R_drew)); exact HO1191.out))) (below_size (by repeat (first | (with_reducible first | exact HB.out | apply below_alloc | apply pw_below_drewN | apply below_drew1 | refine below_set ?_ GE1177.out | refine below_set ?_ GE1187.out) | exact HB.out)))); have n4_ := Aside0.mk (blk_below (g := gb1177) (o := .cells #[.string t1174, .string t1175] 54 (0, 0)) (by (with_reducible repeat (first | apply bN | apply bd | apply bA)); exact BK1177.out) hb); have n5_ := Aside0.mk (blk_below (g := gb1187) (o := .cells #[.string t1184, .string t1185] 54 (0, 0)) (by (with_reducible repeat (first | apply bN | apply bd | apply bA)); exact BK1187.out) hb); have n6_ := Aside0.mk (below_step (by repeat (first | (with_reducible first | exact HB.out | apply below_alloc | apply pw_below_drewN | apply below_drew1 | refine below_set ?_ GE1177.out | refine below_set ?_ GE1187.out) | exact HB.out)) hb); clear HO_18; clear HO_19; clear HO1191; clear BK1177; clear BK1187; clear HB; have HO_18 := n0_; have HO_19 := n1_; have HO1191 := n2_; have HO1195 := n3_; have BK1177 := n4_; have BK1187 := n5_; have HB := n6_; clear n0_ n1_ n2_ n3_ n4_ n5_ n6_; (try clear hb); (try clear hb2); (try clear hk); (try clear hi); (try clear ho0); obtain ⟨Ao57, co57, eo57⟩ := Kd.R_slice HO1195.out; subst eo57) | ((with_reducible refine gate_callee (f := 43) rfl ?_); refine goesL_ (some 86) rfl rfl Try.func43 (by kernel_rfl) rfl #[.slice Ao32 t1181.length co32, .slice Ao57 t1193.length co57] rfl (by (try simp only [List.map_toArray, List.map_cons, List.map_nil]); first | done | rfl | (simp only [List.length_drop, List.length_take]; rfl)) ?_; (with_reducible refine (laws_eqStringS.calls kj20 _ _ t1181 _ _ t1193 true _ ?side1 ?side2 ?side3 ?side4 A52.out).mono ?_); (case side1 => repeat (first | exact (Kd.R_reads' HO_19.out).2.2 | (with_reducible refine Kd.C_alloc ?_ _) | (with_reducible refine Kd.C_drewN ?_ _) | (with_reducible refine Kd.C_drew ?_))); (case side2 => exact (Kd.R_reads' HO_19.out).2.1); (case side3 => repeat (first | exact (Kd.R_reads' HO1195.out).2.2 | (with_reducible refine Kd.C_alloc ?_ _) | (with_reducible refine Kd.C_drewN ?_ _) | (with_reducible refine Kd.C_drew ?_))); (case side4 => exact (Kd.R_reads' HO1195.out).2.1); rintro e w' ⟨rfl, ⟨nd, rfl⟩⟩; refine ⟨_, rfl, ?_⟩))
                      go_ret
                      exact ⟨by first | rfl | (simp [errW_none, errW_some] <;> rfl) | (simp [*, errW_none, errW_some] <;> rfl), by repeat (first | (with_reducible first | exact HB.out | apply below_alloc | apply pw_below_drewN | apply below_drew1 | refine below_set ?_ GE1177.out | refine below_set ?_ GE1187.out) | exact HB.out)⟩
                    · replace c53 := Bool.eq_false_iff.mpr c53
                      subst c53
                      have H1 : (none) = some r := by rw [if_neg (show ¬ (false = true) by decide)] at H; exact H
                      clear H
                      have H := H1
                      clear H1
                      exact absurd H (by simp)
                  · replace c50 := Bool.eq_false_iff.mpr c50
                    subst c50
                    have H1 : (none) = some r := by rw [if_neg (show ¬ (false = true) by decide)] at H; exact H
                    clear H
                    have H := H1
                    clear H1
                    exact absurd H (by simp)

/-! ### spec_FieldOK: function 161 -/
def spec_FieldOK.f (a0 : Int) : Option (Bool) := (spec_l01In.f a0 0 2130706432).bind fun t209 => (some t209)
set_option maxHeartbeats 8000000 in
set_option maxRecDepth 100000 in
theorem spec_FieldOK.calls (a0 : Int) (r : Bool) (w : World) (h : spec_FieldOK.f a0 = some r) :
    Calls Try.prog 161 #[.int .i64 a0] w fun e w' => e = .returned (.bool r) ∧ Drawn0 w w' := by
  have H : ((spec_l01In.f a0 0 2130706432).bind fun t209 => (some t209)) = some r := h
  clear h
  replace H := Option.bind_eq_some_iff.mp H
  obtain ⟨t209, A20, H⟩ := H
  replace H : (some t209) = some r := H
  have A2 := Aside0.mk A20
  clear A20
  obtain rfl := Option.some.inj H
  go_enter Try.func161, Try.ntmps161
  go_wp2_with (first | ((with_reducible refine gate_callee (f := 103) rfl ?_); refine goesL_ (some 4) rfl rfl Try.func103 (by kernel_rfl) rfl #[.int .i64 a0, .int .i64 0, .int .i64 2130706432] rfl (by (try simp only [List.map_toArray, List.map_cons, List.map_nil]); first | done | rfl | (simp only [List.length_drop, List.length_take]; rfl)) ?_; (with_reducible refine (spec_l01In.calls a0 0 2130706432 t209 _ A2.out).mono ?_); rintro e w' ⟨rfl, ⟨nd, rfl⟩⟩; refine ⟨_, rfl, ?_⟩))
  go_ret
  exact ⟨by first | rfl | (simp; done) | (simp [*]; done), by repeat (first | exact Drawn0.refl _ | apply Drawn0.step)⟩

/-! ### spec_l04Node: function 92 -/
def spec_l04Node.f (a0 : ByteArray) (a1 : ByteArray) : Option (ByteArray) := if 1 + a0.size ≤ 9223372036854775807 then (if ((⟨#[1]⟩ : ByteArray) ++ a0).size + a1.size ≤ 9223372036854775807 then ((spec_l03Hash.f (((⟨#[1]⟩ : ByteArray) ++ a0) ++ a1)).bind fun t134 => (some t134)) else (none)) else (none)
set_option maxHeartbeats 8000000 in
set_option maxRecDepth 100000 in
theorem spec_l04Node.calls (a0 : ByteArray) (a1 : ByteArray) (r : ByteArray) (w : World) (h : spec_l04Node.f a0 a1 = some r) :
    Calls Try.prog 92 #[.string a0, .string a1] w fun e w' => e = .returned (.string r) ∧ Below w.heap.size w w' := by
  have HB := Aside0.mk (Below.refl w.heap.size w)
  have H : (if 1 + a0.size ≤ 9223372036854775807 then (if ((⟨#[1]⟩ : ByteArray) ++ a0).size + a1.size ≤ 9223372036854775807 then ((spec_l03Hash.f (((⟨#[1]⟩ : ByteArray) ++ a0) ++ a1)).bind fun t134 => (some t134)) else (none)) else (none)) = some r := h
  clear h
  by_cases c3 : 1 + a0.size ≤ 9223372036854775807
  · rw [if_pos c3] at H
    have c3b0 := eq_true c3
    have c3b1 : decide (1 + a0.size ≤ 9223372036854775807) = true := decide_eq_true c3
    try have c3b2 : (9223372036854775807 < 1 + a0.size) = False := eq_false (Nat.not_lt.2 c3)
    by_cases c4 : ((⟨#[1]⟩ : ByteArray) ++ a0).size + a1.size ≤ 9223372036854775807
    · rw [if_pos c4] at H
      have c4b0 := eq_true c4
      have c4b1 : decide (((⟨#[1]⟩ : ByteArray) ++ a0).size + a1.size ≤ 9223372036854775807) = true := decide_eq_true c4
      try have c4b2 : (9223372036854775807 < ((⟨#[1]⟩ : ByteArray) ++ a0).size + a1.size) = False := eq_false (Nat.not_lt.2 c4)
      try have c4b3 : (9223372036854775807 < 1 + a0.size + a1.size) = False := by have h_ := c4b2; simp only [ByteArray.size_append] at h_; exact h_
      replace H := Option.bind_eq_some_iff.mp H
      obtain ⟨t134, A50, H⟩ := H
      replace H : (some t134) = some r := H
      have A5 := Aside0.mk A50
      clear A50
      obtain rfl := Option.some.inj H
      go_enter Try.func92, Try.ntmps92
      go_wp2_with (first | ((with_reducible refine gate_callee (f := 87) rfl ?_); refine goesL_ (some 9) rfl rfl Try.func87 (by kernel_rfl) rfl #[.string (((⟨#[1]⟩ : ByteArray) ++ a0) ++ a1)] rfl (by (try simp only [List.map_toArray, List.map_cons, List.map_nil]); first | done | rfl | (simp only [List.length_drop, List.length_take]; rfl)) ?_; (with_reducible refine (spec_l03Hash.calls (((⟨#[1]⟩ : ByteArray) ++ a0) ++ a1) t134 _ A5.out).mono ?_); rintro e w6 ⟨rfl, hb⟩; refine ⟨_, rfl, ?_⟩; have n0_ := Aside0.mk (below_step (by repeat (first | (with_reducible first | exact HB.out | apply below_alloc | apply pw_below_drewN | apply below_drew1) | exact HB.out)) hb); clear HB; have HB := n0_; clear n0_; (try clear hb); (try clear hb2); (try clear hk); (try clear hi)))
      go_ret
      exact ⟨by first | rfl | (simp [errW_none, errW_some] <;> rfl) | (simp [*, errW_none, errW_some] <;> rfl), by repeat (first | (with_reducible first | exact HB.out | apply below_alloc | apply pw_below_drewN | apply below_drew1) | exact HB.out)⟩
    · rw [if_neg c4] at H
      exact absurd H (by simp)
  · rw [if_neg c3] at H
    exact absurd H (by simp)

end Go.Proofs.Ytlogocmojnhpbaa.Print
