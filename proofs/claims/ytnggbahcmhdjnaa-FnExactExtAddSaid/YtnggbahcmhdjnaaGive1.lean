/- The contracts of two, called with add, sub, mul: what the Go function answers, as a plain function. -/
import Derived.Test.YtnggbahcmhdjnaaPrint3
import Derived.Test.YtnggbahcmhdjnaaPrint2
namespace Go.Proofs.Ytnggbahcmhdjnaa.Print
open Go.RowKit Go.Proofs.YtnggbahcmhdjnaaW.PrintWords Go.Proofs.YtnggbahcmhdjnaaW.PrintLast
set_option linter.unusedVariables false
set_option linter.unusedSimpArgs false

def two_add.f (a0 : Int) (a1 : Int) : Option (Int × Int) :=
  (impl_FieldOK.f a0).bind fun p => if p = true then (impl_FieldOK.f a1).bind fun q => if q = true then (impl_add.f a0 a1).bind fun t => some (t, 0) else some (0, 1) else some (0, 1)
set_option maxHeartbeats 4000000 in
theorem two_add.calls (a0 : Int) (a1 : Int) (r1 : Int) (r2 : Int) (w : World) (h : two_add.f a0 a1 = some (r1, r2)) :
    Calls Try.prog 88 #[.int .i64 a0, .int .i64 a1, .func (.func 99) #[] #[]] w fun e w' => e = .returned (.tuple #[.int .i64 r1, .int .i64 r2]) ∧ Drawn0 w w' := by
  unfold two_add.f at h
  obtain ⟨p, hp, h⟩ := Option.bind_eq_some_iff.mp h
  have A1 := Aside0.mk hp
  clear hp
  cases p with
  | false =>
    simp only [Bool.false_eq_true, if_false, Option.some.injEq, Prod.mk.injEq] at h
    obtain ⟨rfl, rfl⟩ := h
    go_enter Try.func88, Try.ntmps88
    go_wp2_with fail
    refine (impl_FieldOK.calls a0 false _ A1.out).mono ?_
    rintro e w' ⟨rfl, ⟨nd, rfl⟩⟩
    go_wp2_with fail
    go_ret2
    exact ⟨rfl, by repeat (first | exact Drawn0.refl _ | apply Drawn0.step)⟩
  | true =>
    simp only [if_true] at h
    obtain ⟨q, hq, h⟩ := Option.bind_eq_some_iff.mp h
    have A2 := Aside0.mk hq
    clear hq
    cases q with
    | false =>
      simp only [Bool.false_eq_true, if_false, Option.some.injEq, Prod.mk.injEq] at h
      obtain ⟨rfl, rfl⟩ := h
      go_enter Try.func88, Try.ntmps88
      go_wp2_with fail
      refine (impl_FieldOK.calls a0 true _ A1.out).mono ?_
      rintro e w' ⟨rfl, ⟨nd, rfl⟩⟩
      go_wp2_with fail
      refine (impl_FieldOK.calls a1 false _ A2.out).mono ?_
      rintro e w' ⟨rfl, ⟨nd2, rfl⟩⟩
      go_wp2_with fail
      go_ret2
      exact ⟨rfl, by repeat (first | exact Drawn0.refl _ | apply Drawn0.step)⟩
    | true =>
      simp only [if_true] at h
      obtain ⟨t, ht, h⟩ := Option.bind_eq_some_iff.mp h
      simp only [Option.some.injEq, Prod.mk.injEq] at h
      obtain ⟨rfl, rfl⟩ := h
      have A3 := Aside0.mk ht
      clear ht
      go_enter Try.func88, Try.ntmps88
      go_wp2_with fail
      refine (impl_FieldOK.calls a0 true _ A1.out).mono ?_
      rintro e w' ⟨rfl, ⟨nd, rfl⟩⟩
      go_wp2_with fail
      refine (impl_FieldOK.calls a1 true _ A2.out).mono ?_
      rintro e w' ⟨rfl, ⟨nd2, rfl⟩⟩
      go_wp2_with fail
      refine (impl_add.calls a0 a1 t _ A3.out).mono ?_
      rintro e w' ⟨rfl, ⟨nd3, rfl⟩⟩
      go_wp2_with fail
      go_ret2
      exact ⟨rfl, by repeat (first | exact Drawn0.refl _ | apply Drawn0.step)⟩

def two_sub.f (a0 : Int) (a1 : Int) : Option (Int × Int) :=
  (impl_FieldOK.f a0).bind fun p => if p = true then (impl_FieldOK.f a1).bind fun q => if q = true then (impl_sub.f a0 a1).bind fun t => some (t, 0) else some (0, 1) else some (0, 1)
set_option maxHeartbeats 4000000 in
theorem two_sub.calls (a0 : Int) (a1 : Int) (r1 : Int) (r2 : Int) (w : World) (h : two_sub.f a0 a1 = some (r1, r2)) :
    Calls Try.prog 88 #[.int .i64 a0, .int .i64 a1, .func (.func 100) #[] #[]] w fun e w' => e = .returned (.tuple #[.int .i64 r1, .int .i64 r2]) ∧ Drawn0 w w' := by
  unfold two_sub.f at h
  obtain ⟨p, hp, h⟩ := Option.bind_eq_some_iff.mp h
  have A1 := Aside0.mk hp
  clear hp
  cases p with
  | false =>
    simp only [Bool.false_eq_true, if_false, Option.some.injEq, Prod.mk.injEq] at h
    obtain ⟨rfl, rfl⟩ := h
    go_enter Try.func88, Try.ntmps88
    go_wp2_with fail
    refine (impl_FieldOK.calls a0 false _ A1.out).mono ?_
    rintro e w' ⟨rfl, ⟨nd, rfl⟩⟩
    go_wp2_with fail
    go_ret2
    exact ⟨rfl, by repeat (first | exact Drawn0.refl _ | apply Drawn0.step)⟩
  | true =>
    simp only [if_true] at h
    obtain ⟨q, hq, h⟩ := Option.bind_eq_some_iff.mp h
    have A2 := Aside0.mk hq
    clear hq
    cases q with
    | false =>
      simp only [Bool.false_eq_true, if_false, Option.some.injEq, Prod.mk.injEq] at h
      obtain ⟨rfl, rfl⟩ := h
      go_enter Try.func88, Try.ntmps88
      go_wp2_with fail
      refine (impl_FieldOK.calls a0 true _ A1.out).mono ?_
      rintro e w' ⟨rfl, ⟨nd, rfl⟩⟩
      go_wp2_with fail
      refine (impl_FieldOK.calls a1 false _ A2.out).mono ?_
      rintro e w' ⟨rfl, ⟨nd2, rfl⟩⟩
      go_wp2_with fail
      go_ret2
      exact ⟨rfl, by repeat (first | exact Drawn0.refl _ | apply Drawn0.step)⟩
    | true =>
      simp only [if_true] at h
      obtain ⟨t, ht, h⟩ := Option.bind_eq_some_iff.mp h
      simp only [Option.some.injEq, Prod.mk.injEq] at h
      obtain ⟨rfl, rfl⟩ := h
      have A3 := Aside0.mk ht
      clear ht
      go_enter Try.func88, Try.ntmps88
      go_wp2_with fail
      refine (impl_FieldOK.calls a0 true _ A1.out).mono ?_
      rintro e w' ⟨rfl, ⟨nd, rfl⟩⟩
      go_wp2_with fail
      refine (impl_FieldOK.calls a1 true _ A2.out).mono ?_
      rintro e w' ⟨rfl, ⟨nd2, rfl⟩⟩
      go_wp2_with fail
      refine (impl_sub.calls a0 a1 t _ A3.out).mono ?_
      rintro e w' ⟨rfl, ⟨nd3, rfl⟩⟩
      go_wp2_with fail
      go_ret2
      exact ⟨rfl, by repeat (first | exact Drawn0.refl _ | apply Drawn0.step)⟩

def two_mul.f (a0 : Int) (a1 : Int) : Option (Int × Int) :=
  (impl_FieldOK.f a0).bind fun p => if p = true then (impl_FieldOK.f a1).bind fun q => if q = true then (impl_mul.f a0 a1).bind fun t => some (t, 0) else some (0, 1) else some (0, 1)
set_option maxHeartbeats 4000000 in
theorem two_mul.calls (a0 : Int) (a1 : Int) (r1 : Int) (r2 : Int) (w : World) (h : two_mul.f a0 a1 = some (r1, r2)) :
    Calls Try.prog 88 #[.int .i64 a0, .int .i64 a1, .func (.func 89) #[] #[]] w fun e w' => e = .returned (.tuple #[.int .i64 r1, .int .i64 r2]) ∧ Drawn0 w w' := by
  unfold two_mul.f at h
  obtain ⟨p, hp, h⟩ := Option.bind_eq_some_iff.mp h
  have A1 := Aside0.mk hp
  clear hp
  cases p with
  | false =>
    simp only [Bool.false_eq_true, if_false, Option.some.injEq, Prod.mk.injEq] at h
    obtain ⟨rfl, rfl⟩ := h
    go_enter Try.func88, Try.ntmps88
    go_wp2_with fail
    refine (impl_FieldOK.calls a0 false _ A1.out).mono ?_
    rintro e w' ⟨rfl, ⟨nd, rfl⟩⟩
    go_wp2_with fail
    go_ret2
    exact ⟨rfl, by repeat (first | exact Drawn0.refl _ | apply Drawn0.step)⟩
  | true =>
    simp only [if_true] at h
    obtain ⟨q, hq, h⟩ := Option.bind_eq_some_iff.mp h
    have A2 := Aside0.mk hq
    clear hq
    cases q with
    | false =>
      simp only [Bool.false_eq_true, if_false, Option.some.injEq, Prod.mk.injEq] at h
      obtain ⟨rfl, rfl⟩ := h
      go_enter Try.func88, Try.ntmps88
      go_wp2_with fail
      refine (impl_FieldOK.calls a0 true _ A1.out).mono ?_
      rintro e w' ⟨rfl, ⟨nd, rfl⟩⟩
      go_wp2_with fail
      refine (impl_FieldOK.calls a1 false _ A2.out).mono ?_
      rintro e w' ⟨rfl, ⟨nd2, rfl⟩⟩
      go_wp2_with fail
      go_ret2
      exact ⟨rfl, by repeat (first | exact Drawn0.refl _ | apply Drawn0.step)⟩
    | true =>
      simp only [if_true] at h
      obtain ⟨t, ht, h⟩ := Option.bind_eq_some_iff.mp h
      simp only [Option.some.injEq, Prod.mk.injEq] at h
      obtain ⟨rfl, rfl⟩ := h
      have A3 := Aside0.mk ht
      clear ht
      go_enter Try.func88, Try.ntmps88
      go_wp2_with fail
      refine (impl_FieldOK.calls a0 true _ A1.out).mono ?_
      rintro e w' ⟨rfl, ⟨nd, rfl⟩⟩
      go_wp2_with fail
      refine (impl_FieldOK.calls a1 true _ A2.out).mono ?_
      rintro e w' ⟨rfl, ⟨nd2, rfl⟩⟩
      go_wp2_with fail
      refine (impl_mul.calls a0 a1 t _ A3.out).mono ?_
      rintro e w' ⟨rfl, ⟨nd3, rfl⟩⟩
      go_wp2_with fail
      go_ret2
      exact ⟨rfl, by repeat (first | exact Drawn0.refl _ | apply Drawn0.step)⟩

end Go.Proofs.Ytnggbahcmhdjnaa.Print
