-- Packed by a program of this session (slim.py) out of printed texts; not trusted, Lean checks it.
import Derived.Test.YtnggbahcmhdjnaaPrint0
import Derived.Test.YtnggbahcmhdjnaaPrint1
namespace Go.Proofs.Ytnggbahcmhdjnaa.Print
open Go.RowKit Go.Proofs.YtnggbahcmhdjnaaW.PrintWords Go.Proofs.YtnggbahcmhdjnaaW.PrintLast Go.Proofs.YtnggbahcmhdjnaaW.PrintMore
attribute [local go_sem] max2_int min2_int max_two min_two max_three min_three max_four min_four
set_option linter.unusedVariables false
set_option linter.unusedSimpArgs false
def impl_in.f (a0:Int) (a1:Int) (a2:Int):Option (Bool):=if a1 ≤ a0 then (some (decide (a0 ≤ a2))) else (some false)
set_option maxHeartbeats 8000000 in
set_option maxRecDepth 100000 in
theorem impl_in.calls (a0:Int) (a1:Int) (a2:Int) (r:Bool) (w:World) (h:impl_in.f a0 a1 a2=some r):
    Calls Try.prog 86 #[.int .i64 a0,.int .i64 a1,.int .i64 a2] w fun e w'=> e= .returned (.bool r) ∧ Drawn0 w w':=by
  have H:(if a1 ≤ a0 then (some (decide (a0 ≤ a2))) else (some false))=some r:=h
  clear h
  by_cases c4:a1 ≤ a0
  · rw [if_pos c4] at H
    have c4b0:decide (a1 ≤ a0)=true:=decide_eq_true c4
    clear c4
    obtain rfl:=Option.some.inj H
    go_enter Try.func86,Try.ntmps86
    go_wp2
    go_ret
    exact ⟨by first|rfl|(simp;done)|(simp [*];done),by repeat (first|exact Drawn0.refl _|apply Drawn0.step)⟩
  · rw [if_neg c4] at H
    have c4b0:decide (a1 ≤ a0)=false:=decide_eq_false c4
    clear c4
    obtain rfl:=Option.some.inj H
    go_enter Try.func86,Try.ntmps86
    go_wp2
    go_ret
    exact ⟨by first|rfl|(simp;done)|(simp [*];done),by repeat (first|exact Drawn0.refl _|apply Drawn0.step)⟩
def impl_FieldOK.f (a0:Int):Option (Bool):=(impl_in.f a0 0 2130706432).bind fun t121=> (some t121)
set_option maxHeartbeats 8000000 in
set_option maxRecDepth 100000 in
theorem impl_FieldOK.calls (a0:Int) (r:Bool) (w:World) (h:impl_FieldOK.f a0=some r):
    Calls Try.prog 43 #[.int .i64 a0] w fun e w'=> e= .returned (.bool r) ∧ Drawn0 w w':=by
  have H:((impl_in.f a0 0 2130706432).bind fun t121=> (some t121))=some r:=h
  clear h
  replace H:=Option.bind_eq_some_iff.mp H
  obtain ⟨t121,A20,H⟩:=H
  replace H:(some t121)=some r:=H
  have A2:=Aside0.mk A20
  clear A20
  obtain rfl:=Option.some.inj H
  go_enter Try.func43,Try.ntmps43
  go_wp2_with (first|((with_reducible refine gate_callee (f:=86) rfl ?_);refine goesL_ (some 4) rfl rfl Try.func86 (by kernel_rfl) rfl #[.int .i64 a0,.int .i64 0,.int .i64 2130706432] rfl (by (try simp only [List.map_toArray,List.map_cons,List.map_nil]);first|done|rfl|(simp only [List.length_drop,List.length_take];rfl)) ?_;(with_reducible refine (impl_in.calls a0 0 2130706432 t121 _ A2.out).mono ?_);rintro e w' ⟨rfl,⟨nd,rfl⟩⟩;refine ⟨_,rfl,?_⟩))
  go_ret
  exact ⟨by first|rfl|(simp;done)|(simp [*];done),by repeat (first|exact Drawn0.refl _|apply Drawn0.step)⟩
def impl_add.f (a0:Int) (a1:Int):Option (Int):=some (Int.tmod (wrap64 (a0 + a1)) 2130706433)
set_option maxHeartbeats 8000000 in
set_option maxRecDepth 100000 in
theorem impl_add.calls (a0:Int) (a1:Int) (r:Int) (w:World) (h:impl_add.f a0 a1=some r):
    Calls Try.prog 99 #[.int .i64 a0,.int .i64 a1] w fun e w'=> e= .returned (.int .i64 r) ∧ Drawn0 w w':=by
  have H:(some (Int.tmod (wrap64 (a0 + a1)) 2130706433))=some r:=h
  clear h
  obtain rfl:=Option.some.inj H
  go_enter Try.func99,Try.ntmps99
  go_wp2
  go_ret
  exact ⟨by first|rfl|(simp;done)|(simp [*];done),by repeat (first|exact Drawn0.refl _|apply Drawn0.step)⟩
def impl_mul.f (a0:Int) (a1:Int):Option (Int):=some (Int.tmod (wrap64 (a0 * a1)) 2130706433)
set_option maxHeartbeats 8000000 in
set_option maxRecDepth 100000 in
theorem impl_mul.calls (a0:Int) (a1:Int) (r:Int) (w:World) (h:impl_mul.f a0 a1=some r):
    Calls Try.prog 89 #[.int .i64 a0,.int .i64 a1] w fun e w'=> e= .returned (.int .i64 r) ∧ Drawn0 w w':=by
  have H:(some (Int.tmod (wrap64 (a0 * a1)) 2130706433))=some r:=h
  clear h
  obtain rfl:=Option.some.inj H
  go_enter Try.func89,Try.ntmps89
  go_wp2
  go_ret
  exact ⟨by first|rfl|(simp;done)|(simp [*];done),by repeat (first|exact Drawn0.refl _|apply Drawn0.step)⟩
def impl_sub.f (a0:Int) (a1:Int):Option (Int):=some (Int.tmod (wrap64 ((wrap64 (a0 - a1)) + 2130706433)) 2130706433)
set_option maxHeartbeats 8000000 in
set_option maxRecDepth 100000 in
theorem impl_sub.calls (a0:Int) (a1:Int) (r:Int) (w:World) (h:impl_sub.f a0 a1=some r):
    Calls Try.prog 100 #[.int .i64 a0,.int .i64 a1] w fun e w'=> e= .returned (.int .i64 r) ∧ Drawn0 w w':=by
  have H:(some (Int.tmod (wrap64 ((wrap64 (a0 - a1)) + 2130706433)) 2130706433))=some r:=h
  clear h
  obtain rfl:=Option.some.inj H
  go_enter Try.func100,Try.ntmps100
  go_wp2
  go_ret
  exact ⟨by first|rfl|(simp;done)|(simp [*];done),by repeat (first|exact Drawn0.refl _|apply Drawn0.step)⟩
end Go.Proofs.Ytnggbahcmhdjnaa.Print
namespace Go.Proofs.Ytnggbahcmhdjnaa.Print
open Go.RowKit Go.Proofs.YtnggbahcmhdjnaaW.PrintWords Go.Proofs.YtnggbahcmhdjnaaW.PrintLast
set_option linter.unusedVariables false
set_option linter.unusedSimpArgs false
def two_add.f (a0:Int) (a1:Int):Option (Int × Int):=
  (impl_FieldOK.f a0).bind fun p=> if p=true then (impl_FieldOK.f a1).bind fun q=> if q=true then (impl_add.f a0 a1).bind fun t=> some (t,0) else some (0,1) else some (0,1)
set_option maxHeartbeats 4000000 in
theorem two_add.calls (a0:Int) (a1:Int) (r1:Int) (r2:Int) (w:World) (h:two_add.f a0 a1=some (r1,r2)):
    Calls Try.prog 88 #[.int .i64 a0,.int .i64 a1,.func (.func 99) #[] #[]] w fun e w'=> e= .returned (.tuple #[.int .i64 r1,.int .i64 r2]) ∧ Drawn0 w w':=by
  unfold two_add.f at h
  obtain ⟨p,hp,h⟩:=Option.bind_eq_some_iff.mp h
  have A1:=Aside0.mk hp
  clear hp
  cases p with
  |false=>
    simp only [Bool.false_eq_true,if_false,Option.some.injEq,Prod.mk.injEq] at h
    obtain ⟨rfl,rfl⟩:=h
    go_enter Try.func88,Try.ntmps88
    go_wp2_with fail
    refine (impl_FieldOK.calls a0 false _ A1.out).mono ?_
    rintro e w' ⟨rfl,⟨nd,rfl⟩⟩
    go_wp2_with fail
    go_ret2
    exact ⟨rfl,by repeat (first|exact Drawn0.refl _|apply Drawn0.step)⟩
  |true=>
    simp only [if_true] at h
    obtain ⟨q,hq,h⟩:=Option.bind_eq_some_iff.mp h
    have A2:=Aside0.mk hq
    clear hq
    cases q with
    |false=>
      simp only [Bool.false_eq_true,if_false,Option.some.injEq,Prod.mk.injEq] at h
      obtain ⟨rfl,rfl⟩:=h
      go_enter Try.func88,Try.ntmps88
      go_wp2_with fail
      refine (impl_FieldOK.calls a0 true _ A1.out).mono ?_
      rintro e w' ⟨rfl,⟨nd,rfl⟩⟩
      go_wp2_with fail
      refine (impl_FieldOK.calls a1 false _ A2.out).mono ?_
      rintro e w' ⟨rfl,⟨nd2,rfl⟩⟩
      go_wp2_with fail
      go_ret2
      exact ⟨rfl,by repeat (first|exact Drawn0.refl _|apply Drawn0.step)⟩
    |true=>
      simp only [if_true] at h
      obtain ⟨t,ht,h⟩:=Option.bind_eq_some_iff.mp h
      simp only [Option.some.injEq,Prod.mk.injEq] at h
      obtain ⟨rfl,rfl⟩:=h
      have A3:=Aside0.mk ht
      clear ht
      go_enter Try.func88,Try.ntmps88
      go_wp2_with fail
      refine (impl_FieldOK.calls a0 true _ A1.out).mono ?_
      rintro e w' ⟨rfl,⟨nd,rfl⟩⟩
      go_wp2_with fail
      refine (impl_FieldOK.calls a1 true _ A2.out).mono ?_
      rintro e w' ⟨rfl,⟨nd2,rfl⟩⟩
      go_wp2_with fail
      refine (impl_add.calls a0 a1 t _ A3.out).mono ?_
      rintro e w' ⟨rfl,⟨nd3,rfl⟩⟩
      go_wp2_with fail
      go_ret2
      exact ⟨rfl,by repeat (first|exact Drawn0.refl _|apply Drawn0.step)⟩
def two_sub.f (a0:Int) (a1:Int):Option (Int × Int):=
  (impl_FieldOK.f a0).bind fun p=> if p=true then (impl_FieldOK.f a1).bind fun q=> if q=true then (impl_sub.f a0 a1).bind fun t=> some (t,0) else some (0,1) else some (0,1)
set_option maxHeartbeats 4000000 in
theorem two_sub.calls (a0:Int) (a1:Int) (r1:Int) (r2:Int) (w:World) (h:two_sub.f a0 a1=some (r1,r2)):
    Calls Try.prog 88 #[.int .i64 a0,.int .i64 a1,.func (.func 100) #[] #[]] w fun e w'=> e= .returned (.tuple #[.int .i64 r1,.int .i64 r2]) ∧ Drawn0 w w':=by
  unfold two_sub.f at h
  obtain ⟨p,hp,h⟩:=Option.bind_eq_some_iff.mp h
  have A1:=Aside0.mk hp
  clear hp
  cases p with
  |false=>
    simp only [Bool.false_eq_true,if_false,Option.some.injEq,Prod.mk.injEq] at h
    obtain ⟨rfl,rfl⟩:=h
    go_enter Try.func88,Try.ntmps88
    go_wp2_with fail
    refine (impl_FieldOK.calls a0 false _ A1.out).mono ?_
    rintro e w' ⟨rfl,⟨nd,rfl⟩⟩
    go_wp2_with fail
    go_ret2
    exact ⟨rfl,by repeat (first|exact Drawn0.refl _|apply Drawn0.step)⟩
  |true=>
    simp only [if_true] at h
    obtain ⟨q,hq,h⟩:=Option.bind_eq_some_iff.mp h
    have A2:=Aside0.mk hq
    clear hq
    cases q with
    |false=>
      simp only [Bool.false_eq_true,if_false,Option.some.injEq,Prod.mk.injEq] at h
      obtain ⟨rfl,rfl⟩:=h
      go_enter Try.func88,Try.ntmps88
      go_wp2_with fail
      refine (impl_FieldOK.calls a0 true _ A1.out).mono ?_
      rintro e w' ⟨rfl,⟨nd,rfl⟩⟩
      go_wp2_with fail
      refine (impl_FieldOK.calls a1 false _ A2.out).mono ?_
      rintro e w' ⟨rfl,⟨nd2,rfl⟩⟩
      go_wp2_with fail
      go_ret2
      exact ⟨rfl,by repeat (first|exact Drawn0.refl _|apply Drawn0.step)⟩
    |true=>
      simp only [if_true] at h
      obtain ⟨t,ht,h⟩:=Option.bind_eq_some_iff.mp h
      simp only [Option.some.injEq,Prod.mk.injEq] at h
      obtain ⟨rfl,rfl⟩:=h
      have A3:=Aside0.mk ht
      clear ht
      go_enter Try.func88,Try.ntmps88
      go_wp2_with fail
      refine (impl_FieldOK.calls a0 true _ A1.out).mono ?_
      rintro e w' ⟨rfl,⟨nd,rfl⟩⟩
      go_wp2_with fail
      refine (impl_FieldOK.calls a1 true _ A2.out).mono ?_
      rintro e w' ⟨rfl,⟨nd2,rfl⟩⟩
      go_wp2_with fail
      refine (impl_sub.calls a0 a1 t _ A3.out).mono ?_
      rintro e w' ⟨rfl,⟨nd3,rfl⟩⟩
      go_wp2_with fail
      go_ret2
      exact ⟨rfl,by repeat (first|exact Drawn0.refl _|apply Drawn0.step)⟩
def two_mul.f (a0:Int) (a1:Int):Option (Int × Int):=
  (impl_FieldOK.f a0).bind fun p=> if p=true then (impl_FieldOK.f a1).bind fun q=> if q=true then (impl_mul.f a0 a1).bind fun t=> some (t,0) else some (0,1) else some (0,1)
set_option maxHeartbeats 4000000 in
theorem two_mul.calls (a0:Int) (a1:Int) (r1:Int) (r2:Int) (w:World) (h:two_mul.f a0 a1=some (r1,r2)):
    Calls Try.prog 88 #[.int .i64 a0,.int .i64 a1,.func (.func 89) #[] #[]] w fun e w'=> e= .returned (.tuple #[.int .i64 r1,.int .i64 r2]) ∧ Drawn0 w w':=by
  unfold two_mul.f at h
  obtain ⟨p,hp,h⟩:=Option.bind_eq_some_iff.mp h
  have A1:=Aside0.mk hp
  clear hp
  cases p with
  |false=>
    simp only [Bool.false_eq_true,if_false,Option.some.injEq,Prod.mk.injEq] at h
    obtain ⟨rfl,rfl⟩:=h
    go_enter Try.func88,Try.ntmps88
    go_wp2_with fail
    refine (impl_FieldOK.calls a0 false _ A1.out).mono ?_
    rintro e w' ⟨rfl,⟨nd,rfl⟩⟩
    go_wp2_with fail
    go_ret2
    exact ⟨rfl,by repeat (first|exact Drawn0.refl _|apply Drawn0.step)⟩
  |true=>
    simp only [if_true] at h
    obtain ⟨q,hq,h⟩:=Option.bind_eq_some_iff.mp h
    have A2:=Aside0.mk hq
    clear hq
    cases q with
    |false=>
      simp only [Bool.false_eq_true,if_false,Option.some.injEq,Prod.mk.injEq] at h
      obtain ⟨rfl,rfl⟩:=h
      go_enter Try.func88,Try.ntmps88
      go_wp2_with fail
      refine (impl_FieldOK.calls a0 true _ A1.out).mono ?_
      rintro e w' ⟨rfl,⟨nd,rfl⟩⟩
      go_wp2_with fail
      refine (impl_FieldOK.calls a1 false _ A2.out).mono ?_
      rintro e w' ⟨rfl,⟨nd2,rfl⟩⟩
      go_wp2_with fail
      go_ret2
      exact ⟨rfl,by repeat (first|exact Drawn0.refl _|apply Drawn0.step)⟩
    |true=>
      simp only [if_true] at h
      obtain ⟨t,ht,h⟩:=Option.bind_eq_some_iff.mp h
      simp only [Option.some.injEq,Prod.mk.injEq] at h
      obtain ⟨rfl,rfl⟩:=h
      have A3:=Aside0.mk ht
      clear ht
      go_enter Try.func88,Try.ntmps88
      go_wp2_with fail
      refine (impl_FieldOK.calls a0 true _ A1.out).mono ?_
      rintro e w' ⟨rfl,⟨nd,rfl⟩⟩
      go_wp2_with fail
      refine (impl_FieldOK.calls a1 true _ A2.out).mono ?_
      rintro e w' ⟨rfl,⟨nd2,rfl⟩⟩
      go_wp2_with fail
      refine (impl_mul.calls a0 a1 t _ A3.out).mono ?_
      rintro e w' ⟨rfl,⟨nd3,rfl⟩⟩
      go_wp2_with fail
      go_ret2
      exact ⟨rfl,by repeat (first|exact Drawn0.refl _|apply Drawn0.step)⟩
end Go.Proofs.Ytnggbahcmhdjnaa.Print
namespace Go.Proofs.Ytnggbahcmhdjnaa.Print
open Go.RowKit Go.Proofs.YtnggbahcmhdjnaaW.PrintWords Go.Proofs.YtnggbahcmhdjnaaW.PrintLast Go.Proofs.YtnggbahcmhdjnaaW.PrintMore
attribute [local go_sem] max2_int min2_int max_two min_two max_three min_three max_four min_four
set_option linter.unusedVariables false
set_option linter.unusedSimpArgs false
def impl_ExtOK.f (a0_0:Int) (a0_1:Int):Option (Bool):=(impl_FieldOK.f a0_0).bind fun t123=> (if t123=true then ((impl_FieldOK.f a0_1).bind fun t124=> (some t124)) else (some false))
set_option maxHeartbeats 8000000 in
set_option maxRecDepth 100000 in
theorem impl_ExtOK.calls (a0_0:Int) (a0_1:Int) (r:Bool) (w:World) (h:impl_ExtOK.f a0_0 a0_1=some r):
    Calls Try.prog 93 #[.agg #[.int .i64 a0_0,.int .i64 a0_1]] w fun e w'=> e= .returned (.bool r) ∧ Below w.heap.size w w':=by
  have hu24:=Try.underlying24
  have HB:=Aside0.mk (Below.refl w.heap.size w)
  have H:((impl_FieldOK.f a0_0).bind fun t123=> (if t123=true then ((impl_FieldOK.f a0_1).bind fun t124=> (some t124)) else (some false)))=some r:=h
  clear h
  replace H:=Option.bind_eq_some_iff.mp H
  obtain ⟨t123,A20,H⟩:=H
  replace H:(if t123=true then ((impl_FieldOK.f a0_1).bind fun t124=> (some t124)) else (some false))=some r:=H
  have A2:=Aside0.mk A20
  clear A20
  by_cases c3:t123=true
  · subst c3
    have H1:((impl_FieldOK.f a0_1).bind fun t124=> (some t124))=some r:=by rw [if_pos rfl] at H;exact H
    clear H
    have H:=H1
    clear H1
    replace H:=Option.bind_eq_some_iff.mp H
    obtain ⟨t124,A40,H⟩:=H
    replace H:(some t124)=some r:=H
    have A4:=Aside0.mk A40
    clear A40
    obtain rfl:=Option.some.inj H
    go_enter Try.func93,Try.ntmps93
    go_wp2_with (first|((with_reducible refine gate_dst (N:=1) rfl ?_);refine box_event ?hg (N:=1) ?hd (cs:= #[.int .i64 a0_0,.int .i64 a0_1]) (t:=24) ?hr ?_;(case hd=> rfl);(case hg=> rfl);(case hr=> first|(go_simp;done)|(go_simp;rfl));intro gb122 hg w5 hbox hb;have n0_:=Aside0.mk (below_step (by repeat (first|(with_reducible first|exact HB.out|apply below_alloc|apply pw_below_drewN|apply below_drew1)|exact HB.out)) hb);have n1_:=Aside0.mk (hbox);have n2_:=Aside0.mk ((by rw [hg];exact (below_size (by repeat (first|(with_reducible first|exact HB.out|apply below_alloc|apply pw_below_drewN|apply below_drew1)|exact HB.out))):w.heap.size ≤ gb122));have n3_:=Aside0.mk ((by rw [hg];exact (below_size (by repeat (first|(with_reducible first|exact HB.out|apply below_alloc|apply pw_below_drewN|apply below_drew1)|exact HB.out))):w.heap.size ≤ gb122));clear HB;have HB:=n0_;have BK122:=n1_;have GW122:=n2_;have GE122:=n3_;clear n0_ n1_ n2_ n3_;clear hb hbox hg;have hcz6_0:w5.cell? ⟨gb122,0,none⟩=some (.int .i64 a0_0):=(blk_cell BK122.out 0).trans rfl;have hcz6_1:w5.cell? ⟨gb122,1,none⟩=some (.int .i64 a0_1):=(blk_cell BK122.out 1).trans rfl;have hfz6_0:=blk_frozen BK122.out 0;have hfz6_1:=blk_frozen BK122.out 1)|((with_reducible refine gate_callee (f:=43) rfl ?_);refine goesL_ (some 5) rfl rfl Try.func43 (by kernel_rfl) rfl #[.int .i64 a0_0] rfl (by (try simp only [List.map_toArray,List.map_cons,List.map_nil]);first|done|rfl|(simp only [List.length_drop,List.length_take];rfl)) ?_;(with_reducible refine (impl_FieldOK.calls a0_0 true _ A2.out).mono ?_);rintro e w' ⟨rfl,⟨nd,rfl⟩⟩;refine ⟨_,rfl,?_⟩)|(go_at_call 43;(with_reducible refine (impl_FieldOK.calls a0_1 t124 _ A4.out).mono ?_);rintro e w' ⟨rfl,⟨nd,rfl⟩⟩))
    go_ret
    exact ⟨by first|rfl|(simp [errW_none,errW_some] <;> rfl)|(simp [*,errW_none,errW_some] <;> rfl),by repeat (first|(with_reducible first|exact HB.out|apply below_alloc|apply pw_below_drewN|apply below_drew1|refine below_set ?_ GE122.out)|exact HB.out)⟩
  · replace c3:=Bool.eq_false_iff.mpr c3
    subst c3
    have H1:(some false)=some r:=by rw [if_neg (show ¬ (false=true) by decide)] at H;exact H
    clear H
    have H:=H1
    clear H1
    obtain rfl:=Option.some.inj H
    go_enter Try.func93,Try.ntmps93
    go_wp2_with (first|((with_reducible refine gate_dst (N:=1) rfl ?_);refine box_event ?hg (N:=1) ?hd (cs:= #[.int .i64 a0_0,.int .i64 a0_1]) (t:=24) ?hr ?_;(case hd=> rfl);(case hg=> rfl);(case hr=> first|(go_simp;done)|(go_simp;rfl));intro gb122 hg w7 hbox hb;have n0_:=Aside0.mk (below_step (by repeat (first|(with_reducible first|exact HB.out|apply below_alloc|apply pw_below_drewN|apply below_drew1)|exact HB.out)) hb);have n1_:=Aside0.mk (hbox);have n2_:=Aside0.mk ((by rw [hg];exact (below_size (by repeat (first|(with_reducible first|exact HB.out|apply below_alloc|apply pw_below_drewN|apply below_drew1)|exact HB.out))):w.heap.size ≤ gb122));have n3_:=Aside0.mk ((by rw [hg];exact (below_size (by repeat (first|(with_reducible first|exact HB.out|apply below_alloc|apply pw_below_drewN|apply below_drew1)|exact HB.out))):w.heap.size ≤ gb122));clear HB;have HB:=n0_;have BK122:=n1_;have GW122:=n2_;have GE122:=n3_;clear n0_ n1_ n2_ n3_;clear hb hbox hg;have hcz8_0:w7.cell? ⟨gb122,0,none⟩=some (.int .i64 a0_0):=(blk_cell BK122.out 0).trans rfl;have hcz8_1:w7.cell? ⟨gb122,1,none⟩=some (.int .i64 a0_1):=(blk_cell BK122.out 1).trans rfl;have hfz8_0:=blk_frozen BK122.out 0;have hfz8_1:=blk_frozen BK122.out 1)|((with_reducible refine gate_callee (f:=43) rfl ?_);refine goesL_ (some 5) rfl rfl Try.func43 (by kernel_rfl) rfl #[.int .i64 a0_0] rfl (by (try simp only [List.map_toArray,List.map_cons,List.map_nil]);first|done|rfl|(simp only [List.length_drop,List.length_take];rfl)) ?_;(with_reducible refine (impl_FieldOK.calls a0_0 false _ A2.out).mono ?_);rintro e w' ⟨rfl,⟨nd,rfl⟩⟩;refine ⟨_,rfl,?_⟩))
    go_ret
    exact ⟨by first|rfl|(simp [errW_none,errW_some] <;> rfl)|(simp [*,errW_none,errW_some] <;> rfl),by repeat (first|(with_reducible first|exact HB.out|apply below_alloc|apply pw_below_drewN|apply below_drew1|refine below_set ?_ GE122.out)|exact HB.out)⟩
def impl_Ext_minus.f (a0_0:Int) (a0_1:Int) (a1_0:Int) (a1_1:Int):Option (Int × Int):=(impl_sub.f a0_0 a1_0).bind fun t109=> ((impl_sub.f a0_1 a1_1).bind fun t110=> (some (t109,t110)))
def impl_Ext_minus.T1:Bool × List (List Nat × List Nat):=(true, [([], []),([0], [0]),([], []),([2], [2]),([1,3], [1,3]),([], []),([5], [5]),([], []),([7], [7]),([6,8,4], [6,8]),([4,9], [4,9]),([10,9,0,1,2,3,4,5,6,7,8,9,10], [10])])
def impl_Ext_minus.B1:List Nat:= [0,1,0,4,15,0,32,0,128,511,1023,2047]
theorem impl_Ext_minus.tab1:rtab .any (opsOf Try.f78 1)=impl_Ext_minus.T1:=by kernel_rfl
theorem impl_Ext_minus.bits1:waitsOk impl_Ext_minus.T1.2 impl_Ext_minus.B1=true:=by kernel_rfl
set_option maxHeartbeats 8000000 in
set_option maxRecDepth 100000 in
theorem impl_Ext_minus.calls (a0_0:Int) (a0_1:Int) (a1_0:Int) (a1_1:Int) (r1:Int) (r2:Int) (w:World) (h:impl_Ext_minus.f a0_0 a0_1 a1_0 a1_1=some (r1,r2)):
    Calls Try.prog 78 #[.agg #[.int .i64 a0_0,.int .i64 a0_1],.agg #[.int .i64 a1_0,.int .i64 a1_1]] w fun e w'=> e= .returned (.agg #[.int .i64 r1,.int .i64 r2]) ∧ Below w.heap.size w w':=by
  have hu24:=Try.underlying24
  have HB:=Aside0.mk (Below.refl w.heap.size w)
  have H:((impl_sub.f a0_0 a1_0).bind fun t109=> ((impl_sub.f a0_1 a1_1).bind fun t110=> (some (t109,t110))))=some (r1,r2):=h
  clear h
  replace H:=Option.bind_eq_some_iff.mp H
  obtain ⟨t109,A30,H⟩:=H
  replace H:((impl_sub.f a0_1 a1_1).bind fun t110=> (some (t109,t110)))=some (r1,r2):=H
  have A3:=Aside0.mk A30
  clear A30
  replace H:=Option.bind_eq_some_iff.mp H
  obtain ⟨t110,A40,H⟩:=H
  replace H:(some (t109,t110))=some (r1,r2):=H
  have A4:=Aside0.mk A40
  clear A40
  simp only [Option.some.injEq,Prod.mk.injEq] at H
  obtain ⟨rfl,rfl⟩:=H
  go_enter Try.func78,Try.ntmps78
  try go_wp2_with (first|((with_reducible refine gate_dst (N:=2) rfl ?_);refine box_event ?hg (N:=2) ?hd (cs:= #[.int .i64 a0_0,.int .i64 a0_1]) (t:=24) ?hr ?_;(case hd=> rfl);(case hg=> rfl);(case hr=> first|(go_simp;done)|(go_simp;rfl));intro gb106 hg w5 hbox hb;have n0_:=Aside0.mk (below_step (by repeat (first|(with_reducible first|exact HB.out|apply below_alloc|apply pw_below_drewN|apply below_drew1)|exact HB.out)) hb);have n1_:=Aside0.mk (hbox);have n2_:=Aside0.mk ((by rw [hg];exact (below_size (by repeat (first|(with_reducible first|exact HB.out|apply below_alloc|apply pw_below_drewN|apply below_drew1)|exact HB.out))):w.heap.size ≤ gb106));have n3_:=Aside0.mk ((by rw [hg];exact (below_size (by repeat (first|(with_reducible first|exact HB.out|apply below_alloc|apply pw_below_drewN|apply below_drew1)|exact HB.out))):w.heap.size ≤ gb106));clear HB;have HB:=n0_;have BK106:=n1_;have GW106:=n2_;have GE106:=n3_;clear n0_ n1_ n2_ n3_;clear hb hbox hg)|((with_reducible refine gate_dst (N:=3) rfl ?_);refine box_event ?hg (N:=3) ?hd (cs:= #[.int .i64 a1_0,.int .i64 a1_1]) (t:=24) ?hr ?_;(case hd=> rfl);(case hg=> rfl);(case hr=> first|(go_simp;done)|(go_simp;rfl));intro gb107 hg w6 hbox hb;have n0_:=Aside0.mk (blk_below (g:=gb106) (o:= .cells #[.int .i64 a0_0,.int .i64 a0_1] 24 (0,0)) (by (with_reducible repeat (first|apply bN|apply bd|apply bA));exact BK106.out) hb);have n1_:=Aside0.mk (below_step (by repeat (first|(with_reducible first|exact HB.out|apply below_alloc|apply pw_below_drewN|apply below_drew1|refine below_set ?_ GE106.out)|exact HB.out)) hb);have n2_:=Aside0.mk (hbox);have n3_:=Aside0.mk ((by rw [hg];exact (below_size (by repeat (first|(with_reducible first|exact HB.out|apply below_alloc|apply pw_below_drewN|apply below_drew1|refine below_set ?_ GE106.out)|exact HB.out))):w.heap.size ≤ gb107));have n4_:=Aside0.mk ((by rw [hg];exact (below_size (by repeat (first|(with_reducible first|exact HB.out|apply below_alloc|apply pw_below_drewN|apply below_drew1|refine below_set ?_ GE106.out)|exact HB.out))):w.heap.size ≤ gb107));have n5_:=Aside0.mk ((by rw [hg];exact Nat.ne_of_lt (blk_lt (g:=gb106) (o:= .cells #[.int .i64 a0_0,.int .i64 a0_1] 24 (0,0)) (by (with_reducible repeat (first|apply bN|apply bd|apply bA));exact BK106.out)):gb106 ≠ gb107));have n6_:=Aside0.mk ((by rw [hg];exact Nat.ne_of_gt (blk_lt (g:=gb106) (o:= .cells #[.int .i64 a0_0,.int .i64 a0_1] 24 (0,0)) (by (with_reducible repeat (first|apply bN|apply bd|apply bA));exact BK106.out)):gb107 ≠ gb106));clear BK106;clear HB;have BK106:=n0_;have HB:=n1_;have BK107:=n2_;have GW107:=n3_;have GE107:=n4_;have NB106_107:=n5_;have NB107_106:=n6_;clear n0_ n1_ n2_ n3_ n4_ n5_ n6_;clear hb hbox hg)|((with_reducible refine gate_dst (N:=4) rfl ?_);refine box_event ?hg (N:=4) ?hd (cs:= #[.int .i64 0,.int .i64 0]) (t:=24) ?hr ?_;(case hd=> rfl);(case hg=> rfl);(case hr=> first|(go_simp;done)|(go_simp;rfl));intro gb108 hg w7 hbox hb;have n0_:=Aside0.mk (blk_below (g:=gb106) (o:= .cells #[.int .i64 a0_0,.int .i64 a0_1] 24 (0,0)) (by (with_reducible repeat (first|apply bN|apply bd|apply bA));exact BK106.out) hb);have n1_:=Aside0.mk (blk_below (g:=gb107) (o:= .cells #[.int .i64 a1_0,.int .i64 a1_1] 24 (0,0)) (by (with_reducible repeat (first|apply bN|apply bd|apply bA));exact BK107.out) hb);have n2_:=Aside0.mk (below_step (by repeat (first|(with_reducible first|exact HB.out|apply below_alloc|apply pw_below_drewN|apply below_drew1|refine below_set ?_ GE106.out|refine below_set ?_ GE107.out)|exact HB.out)) hb);have n3_:=Aside0.mk (hbox);have n4_:=Aside0.mk ((by rw [hg];exact (below_size (by repeat (first|(with_reducible first|exact HB.out|apply below_alloc|apply pw_below_drewN|apply below_drew1|refine below_set ?_ GE106.out|refine below_set ?_ GE107.out)|exact HB.out))):w.heap.size ≤ gb108));have n5_:=Aside0.mk ((by rw [hg];exact (below_size (by repeat (first|(with_reducible first|exact HB.out|apply below_alloc|apply pw_below_drewN|apply below_drew1|refine below_set ?_ GE106.out|refine below_set ?_ GE107.out)|exact HB.out))):w.heap.size ≤ gb108));have n6_:=Aside0.mk ((by rw [hg];exact Nat.ne_of_lt (blk_lt (g:=gb106) (o:= .cells #[.int .i64 a0_0,.int .i64 a0_1] 24 (0,0)) (by (with_reducible repeat (first|apply bN|apply bd|apply bA));exact BK106.out)):gb106 ≠ gb108));have n7_:=Aside0.mk ((by rw [hg];exact Nat.ne_of_gt (blk_lt (g:=gb106) (o:= .cells #[.int .i64 a0_0,.int .i64 a0_1] 24 (0,0)) (by (with_reducible repeat (first|apply bN|apply bd|apply bA));exact BK106.out)):gb108 ≠ gb106));have n8_:=Aside0.mk ((by rw [hg];exact Nat.ne_of_lt (blk_lt (g:=gb107) (o:= .cells #[.int .i64 a1_0,.int .i64 a1_1] 24 (0,0)) (by (with_reducible repeat (first|apply bN|apply bd|apply bA));exact BK107.out)):gb107 ≠ gb108));have n9_:=Aside0.mk ((by rw [hg];exact Nat.ne_of_gt (blk_lt (g:=gb107) (o:= .cells #[.int .i64 a1_0,.int .i64 a1_1] 24 (0,0)) (by (with_reducible repeat (first|apply bN|apply bd|apply bA));exact BK107.out)):gb108 ≠ gb107));clear BK106;clear BK107;clear HB;have BK106:=n0_;have BK107:=n1_;have HB:=n2_;have BK108:=n3_;have GW108:=n4_;have GE108:=n5_;have NB106_108:=n6_;have NB108_106:=n7_;have NB107_108:=n8_;have NB108_107:=n9_;clear n0_ n1_ n2_ n3_ n4_ n5_ n6_ n7_ n8_ n9_;clear hb hbox hg))
  have n0_:=Aside0.mk (blk_drew BK106.out)
  have n1_:=Aside0.mk (blk_drew BK107.out)
  have n2_:=Aside0.mk (blk_drew BK108.out)
  have n3_:=Aside0.mk (below_drew1 HB.out)
  clear BK106
  clear BK107
  clear BK108
  clear HB
  have BK106:=n0_
  have BK107:=n1_
  have BK108:=n2_
  have HB:=n3_
  clear n0_ n1_ n2_ n3_
  refine start_ (n:=12) (S:=fun w'=> w'.cell? ⟨gb106,0,none⟩=some (.int .i64 a0_0) ∧ w'.cell? ⟨gb106,1,none⟩=some (.int .i64 a0_1) ∧ w'.cell? ⟨gb107,0,none⟩=some (.int .i64 a1_0) ∧ w'.cell? ⟨gb107,1,none⟩=some (.int .i64 a1_1)) (ds:= []) #[false,false,false,false,false,false,false,false,false,false,false,false] (by kernel_rfl) rfl rfl ⟨(blk_cell BK106.out 0).trans rfl,(blk_cell BK106.out 1).trans rfl,(blk_cell BK107.out 0).trans rfl,(blk_cell BK107.out 1).trans rfl⟩ (fun hHeld=> ?_);refine with_tabW impl_Ext_minus.tab1 impl_Ext_minus.bits1 (fun HT_ HW_=> ?_)
  generalize w7.drew=w8 at BK106 BK107 BK108 HB hHeld ⊢
  refine pure_ (i:=0) (N:=some 5) (v:=?_) (a':=?_) #[true,false,false,false,false,false,false,false,false,false,false,false] rfl rfl (any_of HT_.out (by kernel_rfl)) (fun _ _ _ h=> h) (Or.inl ⟨by rfl,?_⟩) ?_ ?_
  rotate_left
  · intro w'
    go_simp
    with_reducible rfl
  rotate_left
  · simp only [Act.put,List.setIfInBounds_toArray,List.set_cons_zero,List.set_cons_succ,i64_w,i32_w]
    rfl
  refine pure_ (i:=2) (N:=some 7) (v:=?_) (a':=?_) #[true,false,true,false,false,false,false,false,false,false,false,false] rfl rfl (any_of HT_.out (by kernel_rfl)) (fun _ _ _ h=> h) (Or.inl ⟨by rfl,?_⟩) ?_ ?_
  rotate_left
  · intro w'
    go_simp
    with_reducible rfl
  rotate_left
  · simp only [Act.put,List.setIfInBounds_toArray,List.set_cons_zero,List.set_cons_succ,i64_w,i32_w]
    rfl
  refine pure_ (i:=5) (N:=some 10) (v:=?_) (a':=?_) #[true,false,true,false,false,true,false,false,false,false,false,false] rfl rfl (any_of HT_.out (by kernel_rfl)) (fun _ _ _ h=> h) (Or.inl ⟨by rfl,?_⟩) ?_ ?_
  rotate_left
  · intro w'
    go_simp
    with_reducible rfl
  rotate_left
  · simp only [Act.put,List.setIfInBounds_toArray,List.set_cons_zero,List.set_cons_succ,i64_w,i32_w]
    rfl
  refine pure_ (i:=7) (N:=some 12) (v:=?_) (a':=?_) #[true,false,true,false,false,true,false,true,false,false,false,false] rfl rfl (any_of HT_.out (by kernel_rfl)) (fun _ _ _ h=> h) (Or.inl ⟨by rfl,?_⟩) ?_ ?_
  rotate_left
  · intro w'
    go_simp
    with_reducible rfl
  rotate_left
  · simp only [Act.put,List.setIfInBounds_toArray,List.set_cons_zero,List.set_cons_succ,i64_w,i32_w]
    rfl
  refine take_ (i:=1) (N:=some 6) (v:=?_) (a':=?_) #[true,true,true,false,false,true,false,true,false,false,false,false] rfl rfl (take_ofW HT_.out HW_.out (by kernel_rfl)) (fun _ _ _ h=> h) (Or.inl ⟨by rfl,?_⟩) hHeld ?_ ?_
  rotate_left
  · rintro w' ⟨s0,s1,s2,s3⟩
    go_simp
    with_reducible rfl
  rotate_left
  · simp only [Act.put,List.setIfInBounds_toArray,List.set_cons_zero,List.set_cons_succ,i64_w,i32_w]
    rfl
  refine take_ (i:=3) (N:=some 8) (v:=?_) (a':=?_) #[true,true,true,true,false,true,false,true,false,false,false,false] rfl rfl (take_ofW HT_.out HW_.out (by kernel_rfl)) (fun _ _ _ h=> h) (Or.inl ⟨by rfl,?_⟩) hHeld ?_ ?_
  rotate_left
  · rintro w' ⟨s0,s1,s2,s3⟩
    go_simp
    with_reducible rfl
  rotate_left
  · simp only [Act.put,List.setIfInBounds_toArray,List.set_cons_zero,List.set_cons_succ,i64_w,i32_w]
    rfl
  refine take_ (i:=6) (N:=some 11) (v:=?_) (a':=?_) #[true,true,true,true,false,true,true,true,false,false,false,false] rfl rfl (take_ofW HT_.out HW_.out (by kernel_rfl)) (fun _ _ _ h=> h) (Or.inl ⟨by rfl,?_⟩) hHeld ?_ ?_
  rotate_left
  · rintro w' ⟨s0,s1,s2,s3⟩
    go_simp
    with_reducible rfl
  rotate_left
  · simp only [Act.put,List.setIfInBounds_toArray,List.set_cons_zero,List.set_cons_succ,i64_w,i32_w]
    rfl
  refine take_ (i:=8) (N:=some 13) (v:=?_) (a':=?_) #[true,true,true,true,false,true,true,true,true,false,false,false] rfl rfl (take_ofW HT_.out HW_.out (by kernel_rfl)) (fun _ _ _ h=> h) (Or.inl ⟨by rfl,?_⟩) hHeld ?_ ?_
  rotate_left
  · rintro w' ⟨s0,s1,s2,s3⟩
    go_simp
    with_reducible rfl
  rotate_left
  · simp only [Act.put,List.setIfInBounds_toArray,List.set_cons_zero,List.set_cons_succ,i64_w,i32_w]
    rfl
  refine one_ (i:=4) (N:=some 9) #[true,true,true,true,true,true,true,true,true,false,false,false] rfl rfl (one_of HT_.out (by kernel_rfl)) (by decide) (fun K hK=> ?_)
  refine goes_ Try.func100 (by kernel_rfl) rfl #[.int .i64 a0_0,.int .i64 a1_0] (by rfl) rfl rfl (by (try simp only [List.map_toArray,List.map_cons,List.map_nil]);first|done|rfl|(simp only [List.length_drop,List.length_take];rfl)) ?_
  with_reducible refine (impl_sub.calls a0_0 a1_0 t109 _ A3.out).mono ?_
  rintro e w' ⟨rfl,⟨nd,rfl⟩⟩
  refine ⟨_,rfl,?_⟩
  refine hK.out _ _ ⟨(blk_cell BK106.out 0).trans rfl,(blk_cell BK106.out 1).trans rfl,(blk_cell BK107.out 0).trans rfl,(blk_cell BK107.out 1).trans rfl⟩ (fun hHeld=> ?_)
  clear hK K
  refine norm_ (a':=?_) ?_ ?_
  rotate_left
  · show Act.put _ (some 9) _=_
    simp only [Act.put,List.setIfInBounds_toArray,List.set_cons_zero,List.set_cons_succ,i64_w,i32_w]
    rfl
  refine one_ (i:=9) (N:=some 14) #[true,true,true,true,true,true,true,true,true,true,false,false] rfl rfl (one_of HT_.out (by kernel_rfl)) (by decide) (fun K hK=> ?_)
  refine goes_ Try.func100 (by kernel_rfl) rfl #[.int .i64 a0_1,.int .i64 a1_1] (by rfl) rfl rfl (by (try simp only [List.map_toArray,List.map_cons,List.map_nil]);first|done|rfl|(simp only [List.length_drop,List.length_take];rfl)) ?_
  with_reducible refine (impl_sub.calls a0_1 a1_1 t110 _ A4.out).mono ?_
  rintro e w' ⟨rfl,⟨nd,rfl⟩⟩
  refine ⟨_,rfl,?_⟩
  refine hK.out _ _ ⟨(blk_cell BK106.out 0).trans rfl,(blk_cell BK106.out 1).trans rfl,(blk_cell BK107.out 0).trans rfl,(blk_cell BK107.out 1).trans rfl⟩ (fun hHeld=> ?_)
  clear hK K
  refine norm_ (a':=?_) ?_ ?_
  rotate_left
  · show Act.put _ (some 14) _=_
    simp only [Act.put,List.setIfInBounds_toArray,List.set_cons_zero,List.set_cons_succ,i64_w,i32_w]
    rfl
  refine pure_ (i:=10) (N:=some 15) (v:=?_) (a':=?_) #[true,true,true,true,true,true,true,true,true,true,true,false] rfl rfl (any_of HT_.out (by kernel_rfl)) (fun _ _ _ h=> h) (Or.inl ⟨by rfl,?_⟩) ?_ ?_
  rotate_left
  · intro w'
    go_simp
    with_reducible rfl
  rotate_left
  · simp only [Act.put,List.setIfInBounds_toArray,List.set_cons_zero,List.set_cons_succ,i64_w,i32_w]
    rfl
  refine one_ (i:=11) (N:=none) #[true,true,true,true,true,true,true,true,true,true,true,true] rfl rfl (one_of HT_.out (by kernel_rfl)) (by decide) (fun K hK=> ?_)
  have hs9:w8.cell? ⟨gb108,0,none⟩=some (.int .i64 0):=(blk_cell BK108.out 0).trans rfl
  have hfs9:=blk_frozen BK108.out 0
  have hns9_0:=NB106_108.out
  have hns9_1:=NB107_108.out
  have hms9_0:=NB108_106.out
  have hms9_1:=NB108_107.out
  have hs10:w8.cell? ⟨gb108,1,none⟩=some (.int .i64 0):=(blk_cell BK108.out 1).trans rfl
  have hfs10:=blk_frozen BK108.out 1
  have hns10_0:=NB106_108.out
  have hns10_1:=NB107_108.out
  have hms10_0:=NB108_106.out
  have hms10_1:=NB108_107.out
  refine skip_ (w1:=?_) (by rfl) rfl ?_ ?_
  rotate_left
  · go_simp
    rfl
  refine hK.out _ _ ⟨((cell_far (p:=⟨gb108,_,none⟩) NB106_108.out _).trans (((cell_far (p:=⟨gb108,_,none⟩) NB106_108.out _).trans (hHeld.1)))),((cell_far (p:=⟨gb108,_,none⟩) NB106_108.out _).trans (((cell_far (p:=⟨gb108,_,none⟩) NB106_108.out _).trans (hHeld.2.1)))),((cell_far (p:=⟨gb108,_,none⟩) NB107_108.out _).trans (((cell_far (p:=⟨gb108,_,none⟩) NB107_108.out _).trans (hHeld.2.2.1)))),((cell_far (p:=⟨gb108,_,none⟩) NB107_108.out _).trans (((cell_far (p:=⟨gb108,_,none⟩) NB107_108.out _).trans (hHeld.2.2.2))))⟩ (fun hHeld=> ?_)
  clear hK K
  refine done_ (done_of HT_.out (by kernel_rfl)) ?_
  try go_wp2
  refine bodyPost_ret (results_cell_row rfl _ _ gb108 24 #[.int .i64 t109,.int .i64 t110] (0,0) _ rfl (by (with_reducible repeat (first|apply bN|apply bd|apply bA));refine blk_put (cs:= #[.int .i64 t109,.int .i64 0]) ?_ 1 _ rfl;(with_reducible repeat (first|apply bN|apply bd|apply bA));refine blk_put (cs:= #[.int .i64 0,.int .i64 0]) ?_ 0 _ rfl;(with_reducible repeat (first|apply bN|apply bd|apply bA));exact BK108.out) Try.underlying24 rfl (by kernel_rfl)) rfl ?_
  exact ⟨by first|rfl|(simp [errW_none,errW_some] <;> rfl)|(simp [*,errW_none,errW_some] <;> rfl),by repeat (first|(with_reducible first|exact HB.out|apply below_alloc|apply pw_below_drewN|apply below_drew1|refine below_set ?_ GE106.out|refine below_set ?_ GE107.out|refine below_set ?_ GE108.out)|exact HB.out)⟩
def impl_Ext_plus.f (a0_0:Int) (a0_1:Int) (a1_0:Int) (a1_1:Int):Option (Int × Int):=(impl_add.f a0_0 a1_0).bind fun t104=> ((impl_add.f a0_1 a1_1).bind fun t105=> (some (t104,t105)))
def impl_Ext_plus.T1:Bool × List (List Nat × List Nat):=(true, [([], []),([0], [0]),([], []),([2], [2]),([1,3], [1,3]),([], []),([5], [5]),([], []),([7], [7]),([6,8,4], [6,8]),([4,9], [4,9]),([10,9,0,1,2,3,4,5,6,7,8,9,10], [10])])
def impl_Ext_plus.B1:List Nat:= [0,1,0,4,15,0,32,0,128,511,1023,2047]
theorem impl_Ext_plus.tab1:rtab .any (opsOf Try.f76 1)=impl_Ext_plus.T1:=by kernel_rfl
theorem impl_Ext_plus.bits1:waitsOk impl_Ext_plus.T1.2 impl_Ext_plus.B1=true:=by kernel_rfl
set_option maxHeartbeats 8000000 in
set_option maxRecDepth 100000 in
theorem impl_Ext_plus.calls (a0_0:Int) (a0_1:Int) (a1_0:Int) (a1_1:Int) (r1:Int) (r2:Int) (w:World) (h:impl_Ext_plus.f a0_0 a0_1 a1_0 a1_1=some (r1,r2)):
    Calls Try.prog 76 #[.agg #[.int .i64 a0_0,.int .i64 a0_1],.agg #[.int .i64 a1_0,.int .i64 a1_1]] w fun e w'=> e= .returned (.agg #[.int .i64 r1,.int .i64 r2]) ∧ Below w.heap.size w w':=by
  have hu24:=Try.underlying24
  have HB:=Aside0.mk (Below.refl w.heap.size w)
  have H:((impl_add.f a0_0 a1_0).bind fun t104=> ((impl_add.f a0_1 a1_1).bind fun t105=> (some (t104,t105))))=some (r1,r2):=h
  clear h
  replace H:=Option.bind_eq_some_iff.mp H
  obtain ⟨t104,A30,H⟩:=H
  replace H:((impl_add.f a0_1 a1_1).bind fun t105=> (some (t104,t105)))=some (r1,r2):=H
  have A3:=Aside0.mk A30
  clear A30
  replace H:=Option.bind_eq_some_iff.mp H
  obtain ⟨t105,A40,H⟩:=H
  replace H:(some (t104,t105))=some (r1,r2):=H
  have A4:=Aside0.mk A40
  clear A40
  simp only [Option.some.injEq,Prod.mk.injEq] at H
  obtain ⟨rfl,rfl⟩:=H
  go_enter Try.func76,Try.ntmps76
  try go_wp2_with (first|((with_reducible refine gate_dst (N:=2) rfl ?_);refine box_event ?hg (N:=2) ?hd (cs:= #[.int .i64 a0_0,.int .i64 a0_1]) (t:=24) ?hr ?_;(case hd=> rfl);(case hg=> rfl);(case hr=> first|(go_simp;done)|(go_simp;rfl));intro gb101 hg w5 hbox hb;have n0_:=Aside0.mk (below_step (by repeat (first|(with_reducible first|exact HB.out|apply below_alloc|apply pw_below_drewN|apply below_drew1)|exact HB.out)) hb);have n1_:=Aside0.mk (hbox);have n2_:=Aside0.mk ((by rw [hg];exact (below_size (by repeat (first|(with_reducible first|exact HB.out|apply below_alloc|apply pw_below_drewN|apply below_drew1)|exact HB.out))):w.heap.size ≤ gb101));have n3_:=Aside0.mk ((by rw [hg];exact (below_size (by repeat (first|(with_reducible first|exact HB.out|apply below_alloc|apply pw_below_drewN|apply below_drew1)|exact HB.out))):w.heap.size ≤ gb101));clear HB;have HB:=n0_;have BK101:=n1_;have GW101:=n2_;have GE101:=n3_;clear n0_ n1_ n2_ n3_;clear hb hbox hg)|((with_reducible refine gate_dst (N:=3) rfl ?_);refine box_event ?hg (N:=3) ?hd (cs:= #[.int .i64 a1_0,.int .i64 a1_1]) (t:=24) ?hr ?_;(case hd=> rfl);(case hg=> rfl);(case hr=> first|(go_simp;done)|(go_simp;rfl));intro gb102 hg w6 hbox hb;have n0_:=Aside0.mk (blk_below (g:=gb101) (o:= .cells #[.int .i64 a0_0,.int .i64 a0_1] 24 (0,0)) (by (with_reducible repeat (first|apply bN|apply bd|apply bA));exact BK101.out) hb);have n1_:=Aside0.mk (below_step (by repeat (first|(with_reducible first|exact HB.out|apply below_alloc|apply pw_below_drewN|apply below_drew1|refine below_set ?_ GE101.out)|exact HB.out)) hb);have n2_:=Aside0.mk (hbox);have n3_:=Aside0.mk ((by rw [hg];exact (below_size (by repeat (first|(with_reducible first|exact HB.out|apply below_alloc|apply pw_below_drewN|apply below_drew1|refine below_set ?_ GE101.out)|exact HB.out))):w.heap.size ≤ gb102));have n4_:=Aside0.mk ((by rw [hg];exact (below_size (by repeat (first|(with_reducible first|exact HB.out|apply below_alloc|apply pw_below_drewN|apply below_drew1|refine below_set ?_ GE101.out)|exact HB.out))):w.heap.size ≤ gb102));have n5_:=Aside0.mk ((by rw [hg];exact Nat.ne_of_lt (blk_lt (g:=gb101) (o:= .cells #[.int .i64 a0_0,.int .i64 a0_1] 24 (0,0)) (by (with_reducible repeat (first|apply bN|apply bd|apply bA));exact BK101.out)):gb101 ≠ gb102));have n6_:=Aside0.mk ((by rw [hg];exact Nat.ne_of_gt (blk_lt (g:=gb101) (o:= .cells #[.int .i64 a0_0,.int .i64 a0_1] 24 (0,0)) (by (with_reducible repeat (first|apply bN|apply bd|apply bA));exact BK101.out)):gb102 ≠ gb101));clear BK101;clear HB;have BK101:=n0_;have HB:=n1_;have BK102:=n2_;have GW102:=n3_;have GE102:=n4_;have NB101_102:=n5_;have NB102_101:=n6_;clear n0_ n1_ n2_ n3_ n4_ n5_ n6_;clear hb hbox hg)|((with_reducible refine gate_dst (N:=4) rfl ?_);refine box_event ?hg (N:=4) ?hd (cs:= #[.int .i64 0,.int .i64 0]) (t:=24) ?hr ?_;(case hd=> rfl);(case hg=> rfl);(case hr=> first|(go_simp;done)|(go_simp;rfl));intro gb103 hg w7 hbox hb;have n0_:=Aside0.mk (blk_below (g:=gb101) (o:= .cells #[.int .i64 a0_0,.int .i64 a0_1] 24 (0,0)) (by (with_reducible repeat (first|apply bN|apply bd|apply bA));exact BK101.out) hb);have n1_:=Aside0.mk (blk_below (g:=gb102) (o:= .cells #[.int .i64 a1_0,.int .i64 a1_1] 24 (0,0)) (by (with_reducible repeat (first|apply bN|apply bd|apply bA));exact BK102.out) hb);have n2_:=Aside0.mk (below_step (by repeat (first|(with_reducible first|exact HB.out|apply below_alloc|apply pw_below_drewN|apply below_drew1|refine below_set ?_ GE101.out|refine below_set ?_ GE102.out)|exact HB.out)) hb);have n3_:=Aside0.mk (hbox);have n4_:=Aside0.mk ((by rw [hg];exact (below_size (by repeat (first|(with_reducible first|exact HB.out|apply below_alloc|apply pw_below_drewN|apply below_drew1|refine below_set ?_ GE101.out|refine below_set ?_ GE102.out)|exact HB.out))):w.heap.size ≤ gb103));have n5_:=Aside0.mk ((by rw [hg];exact (below_size (by repeat (first|(with_reducible first|exact HB.out|apply below_alloc|apply pw_below_drewN|apply below_drew1|refine below_set ?_ GE101.out|refine below_set ?_ GE102.out)|exact HB.out))):w.heap.size ≤ gb103));have n6_:=Aside0.mk ((by rw [hg];exact Nat.ne_of_lt (blk_lt (g:=gb101) (o:= .cells #[.int .i64 a0_0,.int .i64 a0_1] 24 (0,0)) (by (with_reducible repeat (first|apply bN|apply bd|apply bA));exact BK101.out)):gb101 ≠ gb103));have n7_:=Aside0.mk ((by rw [hg];exact Nat.ne_of_gt (blk_lt (g:=gb101) (o:= .cells #[.int .i64 a0_0,.int .i64 a0_1] 24 (0,0)) (by (with_reducible repeat (first|apply bN|apply bd|apply bA));exact BK101.out)):gb103 ≠ gb101));have n8_:=Aside0.mk ((by rw [hg];exact Nat.ne_of_lt (blk_lt (g:=gb102) (o:= .cells #[.int .i64 a1_0,.int .i64 a1_1] 24 (0,0)) (by (with_reducible repeat (first|apply bN|apply bd|apply bA));exact BK102.out)):gb102 ≠ gb103));have n9_:=Aside0.mk ((by rw [hg];exact Nat.ne_of_gt (blk_lt (g:=gb102) (o:= .cells #[.int .i64 a1_0,.int .i64 a1_1] 24 (0,0)) (by (with_reducible repeat (first|apply bN|apply bd|apply bA));exact BK102.out)):gb103 ≠ gb102));clear BK101;clear BK102;clear HB;have BK101:=n0_;have BK102:=n1_;have HB:=n2_;have BK103:=n3_;have GW103:=n4_;have GE103:=n5_;have NB101_103:=n6_;have NB103_101:=n7_;have NB102_103:=n8_;have NB103_102:=n9_;clear n0_ n1_ n2_ n3_ n4_ n5_ n6_ n7_ n8_ n9_;clear hb hbox hg))
  have n0_:=Aside0.mk (blk_drew BK101.out)
  have n1_:=Aside0.mk (blk_drew BK102.out)
  have n2_:=Aside0.mk (blk_drew BK103.out)
  have n3_:=Aside0.mk (below_drew1 HB.out)
  clear BK101
  clear BK102
  clear BK103
  clear HB
  have BK101:=n0_
  have BK102:=n1_
  have BK103:=n2_
  have HB:=n3_
  clear n0_ n1_ n2_ n3_
  refine start_ (n:=12) (S:=fun w'=> w'.cell? ⟨gb101,0,none⟩=some (.int .i64 a0_0) ∧ w'.cell? ⟨gb101,1,none⟩=some (.int .i64 a0_1) ∧ w'.cell? ⟨gb102,0,none⟩=some (.int .i64 a1_0) ∧ w'.cell? ⟨gb102,1,none⟩=some (.int .i64 a1_1)) (ds:= []) #[false,false,false,false,false,false,false,false,false,false,false,false] (by kernel_rfl) rfl rfl ⟨(blk_cell BK101.out 0).trans rfl,(blk_cell BK101.out 1).trans rfl,(blk_cell BK102.out 0).trans rfl,(blk_cell BK102.out 1).trans rfl⟩ (fun hHeld=> ?_);refine with_tabW impl_Ext_plus.tab1 impl_Ext_plus.bits1 (fun HT_ HW_=> ?_)
  generalize w7.drew=w8 at BK101 BK102 BK103 HB hHeld ⊢
  refine pure_ (i:=0) (N:=some 5) (v:=?_) (a':=?_) #[true,false,false,false,false,false,false,false,false,false,false,false] rfl rfl (any_of HT_.out (by kernel_rfl)) (fun _ _ _ h=> h) (Or.inl ⟨by rfl,?_⟩) ?_ ?_
  rotate_left
  · intro w'
    go_simp
    with_reducible rfl
  rotate_left
  · simp only [Act.put,List.setIfInBounds_toArray,List.set_cons_zero,List.set_cons_succ,i64_w,i32_w]
    rfl
  refine pure_ (i:=2) (N:=some 7) (v:=?_) (a':=?_) #[true,false,true,false,false,false,false,false,false,false,false,false] rfl rfl (any_of HT_.out (by kernel_rfl)) (fun _ _ _ h=> h) (Or.inl ⟨by rfl,?_⟩) ?_ ?_
  rotate_left
  · intro w'
    go_simp
    with_reducible rfl
  rotate_left
  · simp only [Act.put,List.setIfInBounds_toArray,List.set_cons_zero,List.set_cons_succ,i64_w,i32_w]
    rfl
  refine pure_ (i:=5) (N:=some 10) (v:=?_) (a':=?_) #[true,false,true,false,false,true,false,false,false,false,false,false] rfl rfl (any_of HT_.out (by kernel_rfl)) (fun _ _ _ h=> h) (Or.inl ⟨by rfl,?_⟩) ?_ ?_
  rotate_left
  · intro w'
    go_simp
    with_reducible rfl
  rotate_left
  · simp only [Act.put,List.setIfInBounds_toArray,List.set_cons_zero,List.set_cons_succ,i64_w,i32_w]
    rfl
  refine pure_ (i:=7) (N:=some 12) (v:=?_) (a':=?_) #[true,false,true,false,false,true,false,true,false,false,false,false] rfl rfl (any_of HT_.out (by kernel_rfl)) (fun _ _ _ h=> h) (Or.inl ⟨by rfl,?_⟩) ?_ ?_
  rotate_left
  · intro w'
    go_simp
    with_reducible rfl
  rotate_left
  · simp only [Act.put,List.setIfInBounds_toArray,List.set_cons_zero,List.set_cons_succ,i64_w,i32_w]
    rfl
  refine take_ (i:=1) (N:=some 6) (v:=?_) (a':=?_) #[true,true,true,false,false,true,false,true,false,false,false,false] rfl rfl (take_ofW HT_.out HW_.out (by kernel_rfl)) (fun _ _ _ h=> h) (Or.inl ⟨by rfl,?_⟩) hHeld ?_ ?_
  rotate_left
  · rintro w' ⟨s0,s1,s2,s3⟩
    go_simp
    with_reducible rfl
  rotate_left
  · simp only [Act.put,List.setIfInBounds_toArray,List.set_cons_zero,List.set_cons_succ,i64_w,i32_w]
    rfl
  refine take_ (i:=3) (N:=some 8) (v:=?_) (a':=?_) #[true,true,true,true,false,true,false,true,false,false,false,false] rfl rfl (take_ofW HT_.out HW_.out (by kernel_rfl)) (fun _ _ _ h=> h) (Or.inl ⟨by rfl,?_⟩) hHeld ?_ ?_
  rotate_left
  · rintro w' ⟨s0,s1,s2,s3⟩
    go_simp
    with_reducible rfl
  rotate_left
  · simp only [Act.put,List.setIfInBounds_toArray,List.set_cons_zero,List.set_cons_succ,i64_w,i32_w]
    rfl
  refine take_ (i:=6) (N:=some 11) (v:=?_) (a':=?_) #[true,true,true,true,false,true,true,true,false,false,false,false] rfl rfl (take_ofW HT_.out HW_.out (by kernel_rfl)) (fun _ _ _ h=> h) (Or.inl ⟨by rfl,?_⟩) hHeld ?_ ?_
  rotate_left
  · rintro w' ⟨s0,s1,s2,s3⟩
    go_simp
    with_reducible rfl
  rotate_left
  · simp only [Act.put,List.setIfInBounds_toArray,List.set_cons_zero,List.set_cons_succ,i64_w,i32_w]
    rfl
  refine take_ (i:=8) (N:=some 13) (v:=?_) (a':=?_) #[true,true,true,true,false,true,true,true,true,false,false,false] rfl rfl (take_ofW HT_.out HW_.out (by kernel_rfl)) (fun _ _ _ h=> h) (Or.inl ⟨by rfl,?_⟩) hHeld ?_ ?_
  rotate_left
  · rintro w' ⟨s0,s1,s2,s3⟩
    go_simp
    with_reducible rfl
  rotate_left
  · simp only [Act.put,List.setIfInBounds_toArray,List.set_cons_zero,List.set_cons_succ,i64_w,i32_w]
    rfl
  refine one_ (i:=4) (N:=some 9) #[true,true,true,true,true,true,true,true,true,false,false,false] rfl rfl (one_of HT_.out (by kernel_rfl)) (by decide) (fun K hK=> ?_)
  refine goes_ Try.func99 (by kernel_rfl) rfl #[.int .i64 a0_0,.int .i64 a1_0] (by rfl) rfl rfl (by (try simp only [List.map_toArray,List.map_cons,List.map_nil]);first|done|rfl|(simp only [List.length_drop,List.length_take];rfl)) ?_
  with_reducible refine (impl_add.calls a0_0 a1_0 t104 _ A3.out).mono ?_
  rintro e w' ⟨rfl,⟨nd,rfl⟩⟩
  refine ⟨_,rfl,?_⟩
  refine hK.out _ _ ⟨(blk_cell BK101.out 0).trans rfl,(blk_cell BK101.out 1).trans rfl,(blk_cell BK102.out 0).trans rfl,(blk_cell BK102.out 1).trans rfl⟩ (fun hHeld=> ?_)
  clear hK K
  refine norm_ (a':=?_) ?_ ?_
  rotate_left
  · show Act.put _ (some 9) _=_
    simp only [Act.put,List.setIfInBounds_toArray,List.set_cons_zero,List.set_cons_succ,i64_w,i32_w]
    rfl
  refine one_ (i:=9) (N:=some 14) #[true,true,true,true,true,true,true,true,true,true,false,false] rfl rfl (one_of HT_.out (by kernel_rfl)) (by decide) (fun K hK=> ?_)
  refine goes_ Try.func99 (by kernel_rfl) rfl #[.int .i64 a0_1,.int .i64 a1_1] (by rfl) rfl rfl (by (try simp only [List.map_toArray,List.map_cons,List.map_nil]);first|done|rfl|(simp only [List.length_drop,List.length_take];rfl)) ?_
  with_reducible refine (impl_add.calls a0_1 a1_1 t105 _ A4.out).mono ?_
  rintro e w' ⟨rfl,⟨nd,rfl⟩⟩
  refine ⟨_,rfl,?_⟩
  refine hK.out _ _ ⟨(blk_cell BK101.out 0).trans rfl,(blk_cell BK101.out 1).trans rfl,(blk_cell BK102.out 0).trans rfl,(blk_cell BK102.out 1).trans rfl⟩ (fun hHeld=> ?_)
  clear hK K
  refine norm_ (a':=?_) ?_ ?_
  rotate_left
  · show Act.put _ (some 14) _=_
    simp only [Act.put,List.setIfInBounds_toArray,List.set_cons_zero,List.set_cons_succ,i64_w,i32_w]
    rfl
  refine pure_ (i:=10) (N:=some 15) (v:=?_) (a':=?_) #[true,true,true,true,true,true,true,true,true,true,true,false] rfl rfl (any_of HT_.out (by kernel_rfl)) (fun _ _ _ h=> h) (Or.inl ⟨by rfl,?_⟩) ?_ ?_
  rotate_left
  · intro w'
    go_simp
    with_reducible rfl
  rotate_left
  · simp only [Act.put,List.setIfInBounds_toArray,List.set_cons_zero,List.set_cons_succ,i64_w,i32_w]
    rfl
  refine one_ (i:=11) (N:=none) #[true,true,true,true,true,true,true,true,true,true,true,true] rfl rfl (one_of HT_.out (by kernel_rfl)) (by decide) (fun K hK=> ?_)
  have hs9:w8.cell? ⟨gb103,0,none⟩=some (.int .i64 0):=(blk_cell BK103.out 0).trans rfl
  have hfs9:=blk_frozen BK103.out 0
  have hns9_0:=NB101_103.out
  have hns9_1:=NB102_103.out
  have hms9_0:=NB103_101.out
  have hms9_1:=NB103_102.out
  have hs10:w8.cell? ⟨gb103,1,none⟩=some (.int .i64 0):=(blk_cell BK103.out 1).trans rfl
  have hfs10:=blk_frozen BK103.out 1
  have hns10_0:=NB101_103.out
  have hns10_1:=NB102_103.out
  have hms10_0:=NB103_101.out
  have hms10_1:=NB103_102.out
  refine skip_ (w1:=?_) (by rfl) rfl ?_ ?_
  rotate_left
  · go_simp
    rfl
  refine hK.out _ _ ⟨((cell_far (p:=⟨gb103,_,none⟩) NB101_103.out _).trans (((cell_far (p:=⟨gb103,_,none⟩) NB101_103.out _).trans (hHeld.1)))),((cell_far (p:=⟨gb103,_,none⟩) NB101_103.out _).trans (((cell_far (p:=⟨gb103,_,none⟩) NB101_103.out _).trans (hHeld.2.1)))),((cell_far (p:=⟨gb103,_,none⟩) NB102_103.out _).trans (((cell_far (p:=⟨gb103,_,none⟩) NB102_103.out _).trans (hHeld.2.2.1)))),((cell_far (p:=⟨gb103,_,none⟩) NB102_103.out _).trans (((cell_far (p:=⟨gb103,_,none⟩) NB102_103.out _).trans (hHeld.2.2.2))))⟩ (fun hHeld=> ?_)
  clear hK K
  refine done_ (done_of HT_.out (by kernel_rfl)) ?_
  try go_wp2
  refine bodyPost_ret (results_cell_row rfl _ _ gb103 24 #[.int .i64 t104,.int .i64 t105] (0,0) _ rfl (by (with_reducible repeat (first|apply bN|apply bd|apply bA));refine blk_put (cs:= #[.int .i64 t104,.int .i64 0]) ?_ 1 _ rfl;(with_reducible repeat (first|apply bN|apply bd|apply bA));refine blk_put (cs:= #[.int .i64 0,.int .i64 0]) ?_ 0 _ rfl;(with_reducible repeat (first|apply bN|apply bd|apply bA));exact BK103.out) Try.underlying24 rfl (by kernel_rfl)) rfl ?_
  exact ⟨by first|rfl|(simp [errW_none,errW_some] <;> rfl)|(simp [*,errW_none,errW_some] <;> rfl),by repeat (first|(with_reducible first|exact HB.out|apply below_alloc|apply pw_below_drewN|apply below_drew1|refine below_set ?_ GE101.out|refine below_set ?_ GE102.out|refine below_set ?_ GE103.out)|exact HB.out)⟩
def impl_Ext_times.f (a0_0:Int) (a0_1:Int) (a1_0:Int) (a1_1:Int):Option (Int × Int):=(impl_mul.f a0_0 a1_0).bind fun t114=> ((impl_mul.f a0_1 a1_1).bind fun t115=> ((impl_mul.f 3 t115).bind fun t116=> ((impl_add.f t114 t116).bind fun t117=> ((impl_mul.f a0_0 a1_1).bind fun t118=> ((impl_mul.f a0_1 a1_0).bind fun t119=> ((impl_add.f t118 t119).bind fun t120=> (some (t117,t120))))))))
def impl_Ext_times.T1:Bool × List (List Nat × List Nat):=(true, [([], []),([0], [0]),([], []),([2], [2]),([1,3], [1,3]),([], []),([5], [5]),([], []),([7], [7]),([6,8,4], [6,8]),([9,9], [9]),([4,10,10], [4,10]),([], []),([12], [12]),([], []),([14], [14]),([13,15,11], [13,15]),([], []),([17], [17]),([], []),([19], [19]),([18,20,16], [18,20]),([16,21,21], [16,21]),([11,22], [11,22]),([23,22,0,1,2,3,4,5,6,7,8,9,10,11,12,13,14,15,16,17,18,19,20,21,22,23], [23])])
def impl_Ext_times.B1:List Nat:= [0,1,0,4,15,0,32,0,128,511,1023,2047,0,4096,0,16384,65535,0,131072,0,524288,2097151,4194303,8388607,16777215]
theorem impl_Ext_times.tab1:rtab .any (opsOf Try.f80 1)=impl_Ext_times.T1:=by kernel_rfl
theorem impl_Ext_times.bits1:waitsOk impl_Ext_times.T1.2 impl_Ext_times.B1=true:=by kernel_rfl
set_option maxHeartbeats 8000000 in
set_option maxRecDepth 100000 in
theorem impl_Ext_times.calls (a0_0:Int) (a0_1:Int) (a1_0:Int) (a1_1:Int) (r1:Int) (r2:Int) (w:World) (h:impl_Ext_times.f a0_0 a0_1 a1_0 a1_1=some (r1,r2)):
    Calls Try.prog 80 #[.agg #[.int .i64 a0_0,.int .i64 a0_1],.agg #[.int .i64 a1_0,.int .i64 a1_1]] w fun e w'=> e= .returned (.agg #[.int .i64 r1,.int .i64 r2]) ∧ Below w.heap.size w w':=by
  have hu24:=Try.underlying24
  have HB:=Aside0.mk (Below.refl w.heap.size w)
  have H:((impl_mul.f a0_0 a1_0).bind fun t114=> ((impl_mul.f a0_1 a1_1).bind fun t115=> ((impl_mul.f 3 t115).bind fun t116=> ((impl_add.f t114 t116).bind fun t117=> ((impl_mul.f a0_0 a1_1).bind fun t118=> ((impl_mul.f a0_1 a1_0).bind fun t119=> ((impl_add.f t118 t119).bind fun t120=> (some (t117,t120)))))))))=some (r1,r2):=h
  clear h
  replace H:=Option.bind_eq_some_iff.mp H
  obtain ⟨t114,A30,H⟩:=H
  replace H:((impl_mul.f a0_1 a1_1).bind fun t115=> ((impl_mul.f 3 t115).bind fun t116=> ((impl_add.f t114 t116).bind fun t117=> ((impl_mul.f a0_0 a1_1).bind fun t118=> ((impl_mul.f a0_1 a1_0).bind fun t119=> ((impl_add.f t118 t119).bind fun t120=> (some (t117,t120))))))))=some (r1,r2):=H
  have A3:=Aside0.mk A30
  clear A30
  replace H:=Option.bind_eq_some_iff.mp H
  obtain ⟨t115,A40,H⟩:=H
  replace H:((impl_mul.f 3 t115).bind fun t116=> ((impl_add.f t114 t116).bind fun t117=> ((impl_mul.f a0_0 a1_1).bind fun t118=> ((impl_mul.f a0_1 a1_0).bind fun t119=> ((impl_add.f t118 t119).bind fun t120=> (some (t117,t120)))))))=some (r1,r2):=H
  have A4:=Aside0.mk A40
  clear A40
  replace H:=Option.bind_eq_some_iff.mp H
  obtain ⟨t116,A50,H⟩:=H
  replace H:((impl_add.f t114 t116).bind fun t117=> ((impl_mul.f a0_0 a1_1).bind fun t118=> ((impl_mul.f a0_1 a1_0).bind fun t119=> ((impl_add.f t118 t119).bind fun t120=> (some (t117,t120))))))=some (r1,r2):=H
  have A5:=Aside0.mk A50
  clear A50
  replace H:=Option.bind_eq_some_iff.mp H
  obtain ⟨t117,A60,H⟩:=H
  replace H:((impl_mul.f a0_0 a1_1).bind fun t118=> ((impl_mul.f a0_1 a1_0).bind fun t119=> ((impl_add.f t118 t119).bind fun t120=> (some (t117,t120)))))=some (r1,r2):=H
  have A6:=Aside0.mk A60
  clear A60
  replace H:=Option.bind_eq_some_iff.mp H
  obtain ⟨t118,A70,H⟩:=H
  replace H:((impl_mul.f a0_1 a1_0).bind fun t119=> ((impl_add.f t118 t119).bind fun t120=> (some (t117,t120))))=some (r1,r2):=H
  have A7:=Aside0.mk A70
  clear A70
  replace H:=Option.bind_eq_some_iff.mp H
  obtain ⟨t119,A80,H⟩:=H
  replace H:((impl_add.f t118 t119).bind fun t120=> (some (t117,t120)))=some (r1,r2):=H
  have A8:=Aside0.mk A80
  clear A80
  replace H:=Option.bind_eq_some_iff.mp H
  obtain ⟨t120,A90,H⟩:=H
  replace H:(some (t117,t120))=some (r1,r2):=H
  have A9:=Aside0.mk A90
  clear A90
  simp only [Option.some.injEq,Prod.mk.injEq] at H
  obtain ⟨rfl,rfl⟩:=H
  go_enter Try.func80,Try.ntmps80
  try go_wp2_with (first|((with_reducible refine gate_dst (N:=2) rfl ?_);refine box_event ?hg (N:=2) ?hd (cs:= #[.int .i64 a0_0,.int .i64 a0_1]) (t:=24) ?hr ?_;(case hd=> rfl);(case hg=> rfl);(case hr=> first|(go_simp;done)|(go_simp;rfl));intro gb111 hg w10 hbox hb;have n0_:=Aside0.mk (below_step (by repeat (first|(with_reducible first|exact HB.out|apply below_alloc|apply pw_below_drewN|apply below_drew1)|exact HB.out)) hb);have n1_:=Aside0.mk (hbox);have n2_:=Aside0.mk ((by rw [hg];exact (below_size (by repeat (first|(with_reducible first|exact HB.out|apply below_alloc|apply pw_below_drewN|apply below_drew1)|exact HB.out))):w.heap.size ≤ gb111));have n3_:=Aside0.mk ((by rw [hg];exact (below_size (by repeat (first|(with_reducible first|exact HB.out|apply below_alloc|apply pw_below_drewN|apply below_drew1)|exact HB.out))):w.heap.size ≤ gb111));clear HB;have HB:=n0_;have BK111:=n1_;have GW111:=n2_;have GE111:=n3_;clear n0_ n1_ n2_ n3_;clear hb hbox hg)|((with_reducible refine gate_dst (N:=3) rfl ?_);refine box_event ?hg (N:=3) ?hd (cs:= #[.int .i64 a1_0,.int .i64 a1_1]) (t:=24) ?hr ?_;(case hd=> rfl);(case hg=> rfl);(case hr=> first|(go_simp;done)|(go_simp;rfl));intro gb112 hg w11 hbox hb;have n0_:=Aside0.mk (blk_below (g:=gb111) (o:= .cells #[.int .i64 a0_0,.int .i64 a0_1] 24 (0,0)) (by (with_reducible repeat (first|apply bN|apply bd|apply bA));exact BK111.out) hb);have n1_:=Aside0.mk (below_step (by repeat (first|(with_reducible first|exact HB.out|apply below_alloc|apply pw_below_drewN|apply below_drew1|refine below_set ?_ GE111.out)|exact HB.out)) hb);have n2_:=Aside0.mk (hbox);have n3_:=Aside0.mk ((by rw [hg];exact (below_size (by repeat (first|(with_reducible first|exact HB.out|apply below_alloc|apply pw_below_drewN|apply below_drew1|refine below_set ?_ GE111.out)|exact HB.out))):w.heap.size ≤ gb112));have n4_:=Aside0.mk ((by rw [hg];exact (below_size (by repeat (first|(with_reducible first|exact HB.out|apply below_alloc|apply pw_below_drewN|apply below_drew1|refine below_set ?_ GE111.out)|exact HB.out))):w.heap.size ≤ gb112));have n5_:=Aside0.mk ((by rw [hg];exact Nat.ne_of_lt (blk_lt (g:=gb111) (o:= .cells #[.int .i64 a0_0,.int .i64 a0_1] 24 (0,0)) (by (with_reducible repeat (first|apply bN|apply bd|apply bA));exact BK111.out)):gb111 ≠ gb112));have n6_:=Aside0.mk ((by rw [hg];exact Nat.ne_of_gt (blk_lt (g:=gb111) (o:= .cells #[.int .i64 a0_0,.int .i64 a0_1] 24 (0,0)) (by (with_reducible repeat (first|apply bN|apply bd|apply bA));exact BK111.out)):gb112 ≠ gb111));clear BK111;clear HB;have BK111:=n0_;have HB:=n1_;have BK112:=n2_;have GW112:=n3_;have GE112:=n4_;have NB111_112:=n5_;have NB112_111:=n6_;clear n0_ n1_ n2_ n3_ n4_ n5_ n6_;clear hb hbox hg)|((with_reducible refine gate_dst (N:=4) rfl ?_);refine box_event ?hg (N:=4) ?hd (cs:= #[.int .i64 0,.int .i64 0]) (t:=24) ?hr ?_;(case hd=> rfl);(case hg=> rfl);(case hr=> first|(go_simp;done)|(go_simp;rfl));intro gb113 hg w12 hbox hb;have n0_:=Aside0.mk (blk_below (g:=gb111) (o:= .cells #[.int .i64 a0_0,.int .i64 a0_1] 24 (0,0)) (by (with_reducible repeat (first|apply bN|apply bd|apply bA));exact BK111.out) hb);have n1_:=Aside0.mk (blk_below (g:=gb112) (o:= .cells #[.int .i64 a1_0,.int .i64 a1_1] 24 (0,0)) (by (with_reducible repeat (first|apply bN|apply bd|apply bA));exact BK112.out) hb);have n2_:=Aside0.mk (below_step (by repeat (first|(with_reducible first|exact HB.out|apply below_alloc|apply pw_below_drewN|apply below_drew1|refine below_set ?_ GE111.out|refine below_set ?_ GE112.out)|exact HB.out)) hb);have n3_:=Aside0.mk (hbox);have n4_:=Aside0.mk ((by rw [hg];exact (below_size (by repeat (first|(with_reducible first|exact HB.out|apply below_alloc|apply pw_below_drewN|apply below_drew1|refine below_set ?_ GE111.out|refine below_set ?_ GE112.out)|exact HB.out))):w.heap.size ≤ gb113));have n5_:=Aside0.mk ((by rw [hg];exact (below_size (by repeat (first|(with_reducible first|exact HB.out|apply below_alloc|apply pw_below_drewN|apply below_drew1|refine below_set ?_ GE111.out|refine below_set ?_ GE112.out)|exact HB.out))):w.heap.size ≤ gb113));have n6_:=Aside0.mk ((by rw [hg];exact Nat.ne_of_lt (blk_lt (g:=gb111) (o:= .cells #[.int .i64 a0_0,.int .i64 a0_1] 24 (0,0)) (by (with_reducible repeat (first|apply bN|apply bd|apply bA));exact BK111.out)):gb111 ≠ gb113));have n7_:=Aside0.mk ((by rw [hg];exact Nat.ne_of_gt (blk_lt (g:=gb111) (o:= .cells #[.int .i64 a0_0,.int .i64 a0_1] 24 (0,0)) (by (with_reducible repeat (first|apply bN|apply bd|apply bA));exact BK111.out)):gb113 ≠ gb111));have n8_:=Aside0.mk ((by rw [hg];exact Nat.ne_of_lt (blk_lt (g:=gb112) (o:= .cells #[.int .i64 a1_0,.int .i64 a1_1] 24 (0,0)) (by (with_reducible repeat (first|apply bN|apply bd|apply bA));exact BK112.out)):gb112 ≠ gb113));have n9_:=Aside0.mk ((by rw [hg];exact Nat.ne_of_gt (blk_lt (g:=gb112) (o:= .cells #[.int .i64 a1_0,.int .i64 a1_1] 24 (0,0)) (by (with_reducible repeat (first|apply bN|apply bd|apply bA));exact BK112.out)):gb113 ≠ gb112));clear BK111;clear BK112;clear HB;have BK111:=n0_;have BK112:=n1_;have HB:=n2_;have BK113:=n3_;have GW113:=n4_;have GE113:=n5_;have NB111_113:=n6_;have NB113_111:=n7_;have NB112_113:=n8_;have NB113_112:=n9_;clear n0_ n1_ n2_ n3_ n4_ n5_ n6_ n7_ n8_ n9_;clear hb hbox hg))
  have n0_:=Aside0.mk (blk_drew BK111.out)
  have n1_:=Aside0.mk (blk_drew BK112.out)
  have n2_:=Aside0.mk (blk_drew BK113.out)
  have n3_:=Aside0.mk (below_drew1 HB.out)
  clear BK111
  clear BK112
  clear BK113
  clear HB
  have BK111:=n0_
  have BK112:=n1_
  have BK113:=n2_
  have HB:=n3_
  clear n0_ n1_ n2_ n3_
  refine start_ (n:=25) (S:=fun w'=> w'.cell? ⟨gb111,0,none⟩=some (.int .i64 a0_0) ∧ w'.cell? ⟨gb111,1,none⟩=some (.int .i64 a0_1) ∧ w'.cell? ⟨gb112,0,none⟩=some (.int .i64 a1_0) ∧ w'.cell? ⟨gb112,1,none⟩=some (.int .i64 a1_1)) (ds:= []) #[false,false,false,false,false,false,false,false,false,false,false,false,false,false,false,false,false,false,false,false,false,false,false,false,false] (by kernel_rfl) rfl rfl ⟨(blk_cell BK111.out 0).trans rfl,(blk_cell BK111.out 1).trans rfl,(blk_cell BK112.out 0).trans rfl,(blk_cell BK112.out 1).trans rfl⟩ (fun hHeld=> ?_);refine with_tabW impl_Ext_times.tab1 impl_Ext_times.bits1 (fun HT_ HW_=> ?_)
  generalize w12.drew=w13 at BK111 BK112 BK113 HB hHeld ⊢
  refine pure_ (i:=0) (N:=some 5) (v:=?_) (a':=?_) #[true,false,false,false,false,false,false,false,false,false,false,false,false,false,false,false,false,false,false,false,false,false,false,false,false] rfl rfl (any_of HT_.out (by kernel_rfl)) (fun _ _ _ h=> h) (Or.inl ⟨by rfl,?_⟩) ?_ ?_
  rotate_left
  · intro w'
    go_simp
    with_reducible rfl
  rotate_left
  · simp only [Act.put,List.setIfInBounds_toArray,List.set_cons_zero,List.set_cons_succ,i64_w,i32_w]
    rfl
  refine pure_ (i:=2) (N:=some 7) (v:=?_) (a':=?_) #[true,false,true,false,false,false,false,false,false,false,false,false,false,false,false,false,false,false,false,false,false,false,false,false,false] rfl rfl (any_of HT_.out (by kernel_rfl)) (fun _ _ _ h=> h) (Or.inl ⟨by rfl,?_⟩) ?_ ?_
  rotate_left
  · intro w'
    go_simp
    with_reducible rfl
  rotate_left
  · simp only [Act.put,List.setIfInBounds_toArray,List.set_cons_zero,List.set_cons_succ,i64_w,i32_w]
    rfl
  refine pure_ (i:=5) (N:=some 10) (v:=?_) (a':=?_) #[true,false,true,false,false,true,false,false,false,false,false,false,false,false,false,false,false,false,false,false,false,false,false,false,false] rfl rfl (any_of HT_.out (by kernel_rfl)) (fun _ _ _ h=> h) (Or.inl ⟨by rfl,?_⟩) ?_ ?_
  rotate_left
  · intro w'
    go_simp
    with_reducible rfl
  rotate_left
  · simp only [Act.put,List.setIfInBounds_toArray,List.set_cons_zero,List.set_cons_succ,i64_w,i32_w]
    rfl
  refine pure_ (i:=7) (N:=some 12) (v:=?_) (a':=?_) #[true,false,true,false,false,true,false,true,false,false,false,false,false,false,false,false,false,false,false,false,false,false,false,false,false] rfl rfl (any_of HT_.out (by kernel_rfl)) (fun _ _ _ h=> h) (Or.inl ⟨by rfl,?_⟩) ?_ ?_
  rotate_left
  · intro w'
    go_simp
    with_reducible rfl
  rotate_left
  · simp only [Act.put,List.setIfInBounds_toArray,List.set_cons_zero,List.set_cons_succ,i64_w,i32_w]
    rfl
  refine pure_ (i:=12) (N:=some 17) (v:=?_) (a':=?_) #[true,false,true,false,false,true,false,true,false,false,false,false,true,false,false,false,false,false,false,false,false,false,false,false,false] rfl rfl (any_of HT_.out (by kernel_rfl)) (fun _ _ _ h=> h) (Or.inl ⟨by rfl,?_⟩) ?_ ?_
  rotate_left
  · intro w'
    go_simp
    with_reducible rfl
  rotate_left
  · simp only [Act.put,List.setIfInBounds_toArray,List.set_cons_zero,List.set_cons_succ,i64_w,i32_w]
    rfl
  refine pure_ (i:=14) (N:=some 19) (v:=?_) (a':=?_) #[true,false,true,false,false,true,false,true,false,false,false,false,true,false,true,false,false,false,false,false,false,false,false,false,false] rfl rfl (any_of HT_.out (by kernel_rfl)) (fun _ _ _ h=> h) (Or.inl ⟨by rfl,?_⟩) ?_ ?_
  rotate_left
  · intro w'
    go_simp
    with_reducible rfl
  rotate_left
  · simp only [Act.put,List.setIfInBounds_toArray,List.set_cons_zero,List.set_cons_succ,i64_w,i32_w]
    rfl
  refine pure_ (i:=17) (N:=some 22) (v:=?_) (a':=?_) #[true,false,true,false,false,true,false,true,false,false,false,false,true,false,true,false,false,true,false,false,false,false,false,false,false] rfl rfl (any_of HT_.out (by kernel_rfl)) (fun _ _ _ h=> h) (Or.inl ⟨by rfl,?_⟩) ?_ ?_
  rotate_left
  · intro w'
    go_simp
    with_reducible rfl
  rotate_left
  · simp only [Act.put,List.setIfInBounds_toArray,List.set_cons_zero,List.set_cons_succ,i64_w,i32_w]
    rfl
  refine pure_ (i:=19) (N:=some 24) (v:=?_) (a':=?_) #[true,false,true,false,false,true,false,true,false,false,false,false,true,false,true,false,false,true,false,true,false,false,false,false,false] rfl rfl (any_of HT_.out (by kernel_rfl)) (fun _ _ _ h=> h) (Or.inl ⟨by rfl,?_⟩) ?_ ?_
  rotate_left
  · intro w'
    go_simp
    with_reducible rfl
  rotate_left
  · simp only [Act.put,List.setIfInBounds_toArray,List.set_cons_zero,List.set_cons_succ,i64_w,i32_w]
    rfl
  refine take_ (i:=1) (N:=some 6) (v:=?_) (a':=?_) #[true,true,true,false,false,true,false,true,false,false,false,false,true,false,true,false,false,true,false,true,false,false,false,false,false] rfl rfl (take_ofW HT_.out HW_.out (by kernel_rfl)) (fun _ _ _ h=> h) (Or.inl ⟨by rfl,?_⟩) hHeld ?_ ?_
  rotate_left
  · rintro w' ⟨s0,s1,s2,s3⟩
    go_simp
    with_reducible rfl
  rotate_left
  · simp only [Act.put,List.setIfInBounds_toArray,List.set_cons_zero,List.set_cons_succ,i64_w,i32_w]
    rfl
  refine take_ (i:=3) (N:=some 8) (v:=?_) (a':=?_) #[true,true,true,true,false,true,false,true,false,false,false,false,true,false,true,false,false,true,false,true,false,false,false,false,false] rfl rfl (take_ofW HT_.out HW_.out (by kernel_rfl)) (fun _ _ _ h=> h) (Or.inl ⟨by rfl,?_⟩) hHeld ?_ ?_
  rotate_left
  · rintro w' ⟨s0,s1,s2,s3⟩
    go_simp
    with_reducible rfl
  rotate_left
  · simp only [Act.put,List.setIfInBounds_toArray,List.set_cons_zero,List.set_cons_succ,i64_w,i32_w]
    rfl
  refine take_ (i:=6) (N:=some 11) (v:=?_) (a':=?_) #[true,true,true,true,false,true,true,true,false,false,false,false,true,false,true,false,false,true,false,true,false,false,false,false,false] rfl rfl (take_ofW HT_.out HW_.out (by kernel_rfl)) (fun _ _ _ h=> h) (Or.inl ⟨by rfl,?_⟩) hHeld ?_ ?_
  rotate_left
  · rintro w' ⟨s0,s1,s2,s3⟩
    go_simp
    with_reducible rfl
  rotate_left
  · simp only [Act.put,List.setIfInBounds_toArray,List.set_cons_zero,List.set_cons_succ,i64_w,i32_w]
    rfl
  refine take_ (i:=8) (N:=some 13) (v:=?_) (a':=?_) #[true,true,true,true,false,true,true,true,true,false,false,false,true,false,true,false,false,true,false,true,false,false,false,false,false] rfl rfl (take_ofW HT_.out HW_.out (by kernel_rfl)) (fun _ _ _ h=> h) (Or.inl ⟨by rfl,?_⟩) hHeld ?_ ?_
  rotate_left
  · rintro w' ⟨s0,s1,s2,s3⟩
    go_simp
    with_reducible rfl
  rotate_left
  · simp only [Act.put,List.setIfInBounds_toArray,List.set_cons_zero,List.set_cons_succ,i64_w,i32_w]
    rfl
  refine take_ (i:=13) (N:=some 18) (v:=?_) (a':=?_) #[true,true,true,true,false,true,true,true,true,false,false,false,true,true,true,false,false,true,false,true,false,false,false,false,false] rfl rfl (take_ofW HT_.out HW_.out (by kernel_rfl)) (fun _ _ _ h=> h) (Or.inl ⟨by rfl,?_⟩) hHeld ?_ ?_
  rotate_left
  · rintro w' ⟨s0,s1,s2,s3⟩
    go_simp
    with_reducible rfl
  rotate_left
  · simp only [Act.put,List.setIfInBounds_toArray,List.set_cons_zero,List.set_cons_succ,i64_w,i32_w]
    rfl
  refine take_ (i:=15) (N:=some 20) (v:=?_) (a':=?_) #[true,true,true,true,false,true,true,true,true,false,false,false,true,true,true,true,false,true,false,true,false,false,false,false,false] rfl rfl (take_ofW HT_.out HW_.out (by kernel_rfl)) (fun _ _ _ h=> h) (Or.inl ⟨by rfl,?_⟩) hHeld ?_ ?_
  rotate_left
  · rintro w' ⟨s0,s1,s2,s3⟩
    go_simp
    with_reducible rfl
  rotate_left
  · simp only [Act.put,List.setIfInBounds_toArray,List.set_cons_zero,List.set_cons_succ,i64_w,i32_w]
    rfl
  refine take_ (i:=18) (N:=some 23) (v:=?_) (a':=?_) #[true,true,true,true,false,true,true,true,true,false,false,false,true,true,true,true,false,true,true,true,false,false,false,false,false] rfl rfl (take_ofW HT_.out HW_.out (by kernel_rfl)) (fun _ _ _ h=> h) (Or.inl ⟨by rfl,?_⟩) hHeld ?_ ?_
  rotate_left
  · rintro w' ⟨s0,s1,s2,s3⟩
    go_simp
    with_reducible rfl
  rotate_left
  · simp only [Act.put,List.setIfInBounds_toArray,List.set_cons_zero,List.set_cons_succ,i64_w,i32_w]
    rfl
  refine take_ (i:=20) (N:=some 25) (v:=?_) (a':=?_) #[true,true,true,true,false,true,true,true,true,false,false,false,true,true,true,true,false,true,true,true,true,false,false,false,false] rfl rfl (take_ofW HT_.out HW_.out (by kernel_rfl)) (fun _ _ _ h=> h) (Or.inl ⟨by rfl,?_⟩) hHeld ?_ ?_
  rotate_left
  · rintro w' ⟨s0,s1,s2,s3⟩
    go_simp
    with_reducible rfl
  rotate_left
  · simp only [Act.put,List.setIfInBounds_toArray,List.set_cons_zero,List.set_cons_succ,i64_w,i32_w]
    rfl
  refine one_ (i:=4) (N:=some 9) #[true,true,true,true,true,true,true,true,true,false,false,false,true,true,true,true,false,true,true,true,true,false,false,false,false] rfl rfl (one_of HT_.out (by kernel_rfl)) (by decide) (fun K hK=> ?_)
  refine goes_ Try.func89 (by kernel_rfl) rfl #[.int .i64 a0_0,.int .i64 a1_0] (by rfl) rfl rfl (by (try simp only [List.map_toArray,List.map_cons,List.map_nil]);first|done|rfl|(simp only [List.length_drop,List.length_take];rfl)) ?_
  with_reducible refine (impl_mul.calls a0_0 a1_0 t114 _ A3.out).mono ?_
  rintro e w' ⟨rfl,⟨nd,rfl⟩⟩
  refine ⟨_,rfl,?_⟩
  refine hK.out _ _ ⟨(blk_cell BK111.out 0).trans rfl,(blk_cell BK111.out 1).trans rfl,(blk_cell BK112.out 0).trans rfl,(blk_cell BK112.out 1).trans rfl⟩ (fun hHeld=> ?_)
  clear hK K
  refine norm_ (a':=?_) ?_ ?_
  rotate_left
  · show Act.put _ (some 9) _=_
    simp only [Act.put,List.setIfInBounds_toArray,List.set_cons_zero,List.set_cons_succ,i64_w,i32_w]
    rfl
  refine one_ (i:=9) (N:=some 14) #[true,true,true,true,true,true,true,true,true,true,false,false,true,true,true,true,false,true,true,true,true,false,false,false,false] rfl rfl (one_of HT_.out (by kernel_rfl)) (by decide) (fun K hK=> ?_)
  refine goes_ Try.func89 (by kernel_rfl) rfl #[.int .i64 a0_1,.int .i64 a1_1] (by rfl) rfl rfl (by (try simp only [List.map_toArray,List.map_cons,List.map_nil]);first|done|rfl|(simp only [List.length_drop,List.length_take];rfl)) ?_
  with_reducible refine (impl_mul.calls a0_1 a1_1 t115 _ A4.out).mono ?_
  rintro e w' ⟨rfl,⟨nd,rfl⟩⟩
  refine ⟨_,rfl,?_⟩
  refine hK.out _ _ ⟨(blk_cell BK111.out 0).trans rfl,(blk_cell BK111.out 1).trans rfl,(blk_cell BK112.out 0).trans rfl,(blk_cell BK112.out 1).trans rfl⟩ (fun hHeld=> ?_)
  clear hK K
  refine norm_ (a':=?_) ?_ ?_
  rotate_left
  · show Act.put _ (some 14) _=_
    simp only [Act.put,List.setIfInBounds_toArray,List.set_cons_zero,List.set_cons_succ,i64_w,i32_w]
    rfl
  refine one_ (i:=10) (N:=some 15) #[true,true,true,true,true,true,true,true,true,true,true,false,true,true,true,true,false,true,true,true,true,false,false,false,false] rfl rfl (one_of HT_.out (by kernel_rfl)) (by decide) (fun K hK=> ?_)
  refine goes_ Try.func89 (by kernel_rfl) rfl #[.int .i64 3,.int .i64 t115] (by rfl) rfl rfl (by (try simp only [List.map_toArray,List.map_cons,List.map_nil]);first|done|rfl|(simp only [List.length_drop,List.length_take];rfl)) ?_
  with_reducible refine (impl_mul.calls 3 t115 t116 _ A5.out).mono ?_
  rintro e w' ⟨rfl,⟨nd,rfl⟩⟩
  refine ⟨_,rfl,?_⟩
  refine hK.out _ _ ⟨(blk_cell BK111.out 0).trans rfl,(blk_cell BK111.out 1).trans rfl,(blk_cell BK112.out 0).trans rfl,(blk_cell BK112.out 1).trans rfl⟩ (fun hHeld=> ?_)
  clear hK K
  refine norm_ (a':=?_) ?_ ?_
  rotate_left
  · show Act.put _ (some 15) _=_
    simp only [Act.put,List.setIfInBounds_toArray,List.set_cons_zero,List.set_cons_succ,i64_w,i32_w]
    rfl
  refine one_ (i:=11) (N:=some 16) #[true,true,true,true,true,true,true,true,true,true,true,true,true,true,true,true,false,true,true,true,true,false,false,false,false] rfl rfl (one_of HT_.out (by kernel_rfl)) (by decide) (fun K hK=> ?_)
  refine goes_ Try.func99 (by kernel_rfl) rfl #[.int .i64 t114,.int .i64 t116] (by rfl) rfl rfl (by (try simp only [List.map_toArray,List.map_cons,List.map_nil]);first|done|rfl|(simp only [List.length_drop,List.length_take];rfl)) ?_
  with_reducible refine (impl_add.calls t114 t116 t117 _ A6.out).mono ?_
  rintro e w' ⟨rfl,⟨nd,rfl⟩⟩
  refine ⟨_,rfl,?_⟩
  refine hK.out _ _ ⟨(blk_cell BK111.out 0).trans rfl,(blk_cell BK111.out 1).trans rfl,(blk_cell BK112.out 0).trans rfl,(blk_cell BK112.out 1).trans rfl⟩ (fun hHeld=> ?_)
  clear hK K
  refine norm_ (a':=?_) ?_ ?_
  rotate_left
  · show Act.put _ (some 16) _=_
    simp only [Act.put,List.setIfInBounds_toArray,List.set_cons_zero,List.set_cons_succ,i64_w,i32_w]
    rfl
  refine one_ (i:=16) (N:=some 21) #[true,true,true,true,true,true,true,true,true,true,true,true,true,true,true,true,true,true,true,true,true,false,false,false,false] rfl rfl (one_of HT_.out (by kernel_rfl)) (by decide) (fun K hK=> ?_)
  refine goes_ Try.func89 (by kernel_rfl) rfl #[.int .i64 a0_0,.int .i64 a1_1] (by rfl) rfl rfl (by (try simp only [List.map_toArray,List.map_cons,List.map_nil]);first|done|rfl|(simp only [List.length_drop,List.length_take];rfl)) ?_
  with_reducible refine (impl_mul.calls a0_0 a1_1 t118 _ A7.out).mono ?_
  rintro e w' ⟨rfl,⟨nd,rfl⟩⟩
  refine ⟨_,rfl,?_⟩
  refine hK.out _ _ ⟨(blk_cell BK111.out 0).trans rfl,(blk_cell BK111.out 1).trans rfl,(blk_cell BK112.out 0).trans rfl,(blk_cell BK112.out 1).trans rfl⟩ (fun hHeld=> ?_)
  clear hK K
  refine norm_ (a':=?_) ?_ ?_
  rotate_left
  · show Act.put _ (some 21) _=_
    simp only [Act.put,List.setIfInBounds_toArray,List.set_cons_zero,List.set_cons_succ,i64_w,i32_w]
    rfl
  refine one_ (i:=21) (N:=some 26) #[true,true,true,true,true,true,true,true,true,true,true,true,true,true,true,true,true,true,true,true,true,true,false,false,false] rfl rfl (one_of HT_.out (by kernel_rfl)) (by decide) (fun K hK=> ?_)
  refine goes_ Try.func89 (by kernel_rfl) rfl #[.int .i64 a0_1,.int .i64 a1_0] (by rfl) rfl rfl (by (try simp only [List.map_toArray,List.map_cons,List.map_nil]);first|done|rfl|(simp only [List.length_drop,List.length_take];rfl)) ?_
  with_reducible refine (impl_mul.calls a0_1 a1_0 t119 _ A8.out).mono ?_
  rintro e w' ⟨rfl,⟨nd,rfl⟩⟩
  refine ⟨_,rfl,?_⟩
  refine hK.out _ _ ⟨(blk_cell BK111.out 0).trans rfl,(blk_cell BK111.out 1).trans rfl,(blk_cell BK112.out 0).trans rfl,(blk_cell BK112.out 1).trans rfl⟩ (fun hHeld=> ?_)
  clear hK K
  refine norm_ (a':=?_) ?_ ?_
  rotate_left
  · show Act.put _ (some 26) _=_
    simp only [Act.put,List.setIfInBounds_toArray,List.set_cons_zero,List.set_cons_succ,i64_w,i32_w]
    rfl
  refine one_ (i:=22) (N:=some 27) #[true,true,true,true,true,true,true,true,true,true,true,true,true,true,true,true,true,true,true,true,true,true,true,false,false] rfl rfl (one_of HT_.out (by kernel_rfl)) (by decide) (fun K hK=> ?_)
  refine goes_ Try.func99 (by kernel_rfl) rfl #[.int .i64 t118,.int .i64 t119] (by rfl) rfl rfl (by (try simp only [List.map_toArray,List.map_cons,List.map_nil]);first|done|rfl|(simp only [List.length_drop,List.length_take];rfl)) ?_
  with_reducible refine (impl_add.calls t118 t119 t120 _ A9.out).mono ?_
  rintro e w' ⟨rfl,⟨nd,rfl⟩⟩
  refine ⟨_,rfl,?_⟩
  refine hK.out _ _ ⟨(blk_cell BK111.out 0).trans rfl,(blk_cell BK111.out 1).trans rfl,(blk_cell BK112.out 0).trans rfl,(blk_cell BK112.out 1).trans rfl⟩ (fun hHeld=> ?_)
  clear hK K
  refine norm_ (a':=?_) ?_ ?_
  rotate_left
  · show Act.put _ (some 27) _=_
    simp only [Act.put,List.setIfInBounds_toArray,List.set_cons_zero,List.set_cons_succ,i64_w,i32_w]
    rfl
  refine pure_ (i:=23) (N:=some 28) (v:=?_) (a':=?_) #[true,true,true,true,true,true,true,true,true,true,true,true,true,true,true,true,true,true,true,true,true,true,true,true,false] rfl rfl (any_of HT_.out (by kernel_rfl)) (fun _ _ _ h=> h) (Or.inl ⟨by rfl,?_⟩) ?_ ?_
  rotate_left
  · intro w'
    go_simp
    with_reducible rfl
  rotate_left
  · simp only [Act.put,List.setIfInBounds_toArray,List.set_cons_zero,List.set_cons_succ,i64_w,i32_w]
    rfl
  refine one_ (i:=24) (N:=none) #[true,true,true,true,true,true,true,true,true,true,true,true,true,true,true,true,true,true,true,true,true,true,true,true,true] rfl rfl (one_of HT_.out (by kernel_rfl)) (by decide) (fun K hK=> ?_)
  have hs14:w13.cell? ⟨gb113,0,none⟩=some (.int .i64 0):=(blk_cell BK113.out 0).trans rfl
  have hfs14:=blk_frozen BK113.out 0
  have hns14_0:=NB111_113.out
  have hns14_1:=NB112_113.out
  have hms14_0:=NB113_111.out
  have hms14_1:=NB113_112.out
  have hs15:w13.cell? ⟨gb113,1,none⟩=some (.int .i64 0):=(blk_cell BK113.out 1).trans rfl
  have hfs15:=blk_frozen BK113.out 1
  have hns15_0:=NB111_113.out
  have hns15_1:=NB112_113.out
  have hms15_0:=NB113_111.out
  have hms15_1:=NB113_112.out
  refine skip_ (w1:=?_) (by rfl) rfl ?_ ?_
  rotate_left
  · go_simp
    rfl
  refine hK.out _ _ ⟨((cell_far (p:=⟨gb113,_,none⟩) NB111_113.out _).trans (((cell_far (p:=⟨gb113,_,none⟩) NB111_113.out _).trans (hHeld.1)))),((cell_far (p:=⟨gb113,_,none⟩) NB111_113.out _).trans (((cell_far (p:=⟨gb113,_,none⟩) NB111_113.out _).trans (hHeld.2.1)))),((cell_far (p:=⟨gb113,_,none⟩) NB112_113.out _).trans (((cell_far (p:=⟨gb113,_,none⟩) NB112_113.out _).trans (hHeld.2.2.1)))),((cell_far (p:=⟨gb113,_,none⟩) NB112_113.out _).trans (((cell_far (p:=⟨gb113,_,none⟩) NB112_113.out _).trans (hHeld.2.2.2))))⟩ (fun hHeld=> ?_)
  clear hK K
  refine done_ (done_of HT_.out (by kernel_rfl)) ?_
  try go_wp2
  refine bodyPost_ret (results_cell_row rfl _ _ gb113 24 #[.int .i64 t117,.int .i64 t120] (0,0) _ rfl (by (with_reducible repeat (first|apply bN|apply bd|apply bA));refine blk_put (cs:= #[.int .i64 t117,.int .i64 0]) ?_ 1 _ rfl;(with_reducible repeat (first|apply bN|apply bd|apply bA));refine blk_put (cs:= #[.int .i64 0,.int .i64 0]) ?_ 0 _ rfl;(with_reducible repeat (first|apply bN|apply bd|apply bA));exact BK113.out) Try.underlying24 rfl (by kernel_rfl)) rfl ?_
  exact ⟨by first|rfl|(simp [errW_none,errW_some] <;> rfl)|(simp [*,errW_none,errW_some] <;> rfl),by repeat (first|(with_reducible first|exact HB.out|apply below_alloc|apply pw_below_drewN|apply below_drew1|refine below_set ?_ GE111.out|refine below_set ?_ GE112.out|refine below_set ?_ GE113.out)|exact HB.out)⟩
end Go.Proofs.Ytnggbahcmhdjnaa.Print
namespace Go.Proofs.Ytnggbahcmhdjnaa.Print
open Go.RowKit Go.Proofs.YtnggbahcmhdjnaaW.PrintWords Go.Proofs.YtnggbahcmhdjnaaW.PrintLast
set_option linter.unusedVariables false
set_option linter.unusedSimpArgs false
theorem ext3 {w w':World} {o1 o2 o3:Array Value} {t:TypeId} (hb:Below (((w.alloc (.cells o1 t)).alloc (.cells o2 t)).alloc (.cells o3 t)).heap.size (((w.alloc (.cells o1 t)).alloc (.cells o2 t)).alloc (.cells o3 t)) w'):
    w'.heap[w.heap.size]?=some (.cells o1 t (0,0)) ∧ w'.heap[w.heap.size + 1]?=some (.cells o2 t (0,0)) ∧ w'.heap[w.heap.size + 1 + 1]?=some (.cells o3 t (0,0)) ∧ Below w.heap.size w w' ∧ w.heap.size + 1 + 1 < w'.heap.size:=by
  have s1:(w.alloc (.cells o1 t)).heap.size=w.heap.size + 1:=by simp
  have s2:((w.alloc (.cells o1 t)).alloc (.cells o2 t)).heap.size=w.heap.size + 1 + 1:=by simp
  have hz:=hb.size
  have s3:(((w.alloc (.cells o1 t)).alloc (.cells o2 t)).alloc (.cells o3 t)).heap.size=w.heap.size + 1 + 1 + 1:=by simp
  refine ⟨blk_below (blk_alloc (blk_alloc (blk_new w _) _) _) hb,blk_below (blk_alloc (s1 ▸ blk_new _ _) _) hb,blk_below (s2 ▸ blk_new _ _) hb,?_,by omega⟩
  exact (below_alloc (below_alloc (below_alloc (Below.refl _ _) _) _) _).trans (hb.mono (by omega))
def extTwo_plus.f (a0_0:Int) (a0_1:Int) (a1_0:Int) (a1_1:Int):Option (Int × Int × Int):=
  (impl_ExtOK.f a0_0 a0_1).bind fun p=> if p=true then (impl_ExtOK.f a1_0 a1_1).bind fun q=> if q=true then (impl_Ext_plus.f a0_0 a0_1 a1_0 a1_1).bind fun t=> some (t.1,t.2,0) else some (0,0,1) else some (0,0,1)
set_option maxHeartbeats 4000000 in
theorem extTwo_plus.calls (a0_0:Int) (a0_1:Int) (a1_0:Int) (a1_1:Int) (r1:Int) (r2:Int) (r3:Int) (w:World) (h:extTwo_plus.f a0_0 a0_1 a1_0 a1_1=some (r1,r2,r3)):
    Calls Try.prog 75 #[.agg #[.int .i64 a0_0,.int .i64 a0_1],.agg #[.int .i64 a1_0,.int .i64 a1_1],.func (.func 76) #[] #[]] w fun e w'=> e= .returned (.tuple #[.agg #[.int .i64 r1,.int .i64 r2],.int .i64 r3]) ∧ Below w.heap.size w w':=by
  have hu:=Try.underlying24
  unfold extTwo_plus.f at h
  obtain ⟨p,hp,h⟩:=Option.bind_eq_some_iff.mp h
  have A1:=Aside0.mk hp
  clear hp
  cases p with
  |false=>
    simp only [Bool.false_eq_true,if_false,Option.some.injEq,Prod.mk.injEq] at h
    obtain ⟨rfl,rfl,rfl⟩:=h
    go_enter Try.func75,Try.ntmps75
    go_wp2_with fail
    refine (impl_ExtOK.calls a0_0 a0_1 false _ A1.out).mono ?_
    rintro e w1 ⟨rfl,hb1⟩
    obtain ⟨b1,b2,b3,bel,hz⟩:=ext3 hb1
    have c10:=blk_cell b1 0
    have c11:=blk_cell b1 1
    have c20:=blk_cell b2 0
    have c21:=blk_cell b2 1
    have c30:=blk_cell b3 0
    have c31:=blk_cell b3 1
    have f30:=blk_frozen b3 0
    have f31:=blk_frozen b3 1
    simp only [List.getElem?_toArray,List.getElem?_cons_zero,List.getElem?_cons_succ] at c10 c11 c20 c21 c30 c31
    have B3:=Aside0.mk b3
    have BEL:=Aside0.mk bel
    clear b1 b2 b3 bel
    go_wp2_with fail
    refine bodyPost_ret (results_ct rfl _ _ (w.heap.size + 1 + 1) 24 #[.int .i64 0,.int .i64 0] (0,0) _ rfl (blk_put (cs:= #[.int .i64 0,.int .i64 0]) (blk_put (cs:= #[.int .i64 0,.int .i64 0]) B3.out 0 _ rfl) 1 _ rfl) Try.underlying24 rfl (by kernel_rfl)) rfl ?_
    exact ⟨rfl,below_set (below_set BEL.out (by omega)) (by omega)⟩
  |true=>
    simp only [if_true] at h
    obtain ⟨q,hq,h⟩:=Option.bind_eq_some_iff.mp h
    have A2:=Aside0.mk hq
    clear hq
    cases q with
    |false=>
      simp only [Bool.false_eq_true,if_false,Option.some.injEq,Prod.mk.injEq] at h
      obtain ⟨rfl,rfl,rfl⟩:=h
      go_enter Try.func75,Try.ntmps75
      go_wp2_with fail
      refine (impl_ExtOK.calls a0_0 a0_1 true _ A1.out).mono ?_
      rintro e w1 ⟨rfl,hb1⟩
      obtain ⟨b1,b2,b3,bel,hz⟩:=ext3 hb1
      have c10:=blk_cell b1 0
      have c11:=blk_cell b1 1
      have c20:=blk_cell b2 0
      have c21:=blk_cell b2 1
      have c30:=blk_cell b3 0
      have c31:=blk_cell b3 1
      have f30:=blk_frozen b3 0
      have f31:=blk_frozen b3 1
      simp only [List.getElem?_toArray,List.getElem?_cons_zero,List.getElem?_cons_succ] at c10 c11 c20 c21 c30 c31
      have B3:=Aside0.mk b3
      have BEL:=Aside0.mk bel
      clear b1 b2 b3 bel
      go_wp2_with fail
      refine (impl_ExtOK.calls a1_0 a1_1 false _ A2.out).mono ?_
      rintro e w2 ⟨rfl,hb2⟩
      clear c10 c11 c20 c21 c30 c31 f30 f31 B3 BEL hz
      obtain ⟨b1,b2,b3,bel,hz⟩:=ext3 (hb1.trans (hb2.mono hb1.size))
      have c10:=blk_cell b1 0
      have c11:=blk_cell b1 1
      have c20:=blk_cell b2 0
      have c21:=blk_cell b2 1
      have c30:=blk_cell b3 0
      have c31:=blk_cell b3 1
      have f30:=blk_frozen b3 0
      have f31:=blk_frozen b3 1
      simp only [List.getElem?_toArray,List.getElem?_cons_zero,List.getElem?_cons_succ] at c10 c11 c20 c21 c30 c31
      have B3:=Aside0.mk b3
      have BEL:=Aside0.mk bel
      clear b1 b2 b3 bel
      go_wp2_with fail
      refine bodyPost_ret (results_ct rfl _ _ (w.heap.size + 1 + 1) 24 #[.int .i64 0,.int .i64 0] (0,0) _ rfl (blk_put (cs:= #[.int .i64 0,.int .i64 0]) (blk_put (cs:= #[.int .i64 0,.int .i64 0]) B3.out 0 _ rfl) 1 _ rfl) Try.underlying24 rfl (by kernel_rfl)) rfl ?_
      exact ⟨rfl,below_set (below_set BEL.out (by omega)) (by omega)⟩
    |true=>
      simp only [if_true] at h
      obtain ⟨⟨t1,t2⟩,ht,h⟩:=Option.bind_eq_some_iff.mp h
      simp only [Option.some.injEq,Prod.mk.injEq] at h
      obtain ⟨rfl,rfl,rfl⟩:=h
      have A3:=Aside0.mk ht
      clear ht
      go_enter Try.func75,Try.ntmps75
      go_wp2_with fail
      refine (impl_ExtOK.calls a0_0 a0_1 true _ A1.out).mono ?_
      rintro e w1 ⟨rfl,hb1⟩
      obtain ⟨b1,b2,b3,bel,hz⟩:=ext3 hb1
      have c10:=blk_cell b1 0
      have c11:=blk_cell b1 1
      have c20:=blk_cell b2 0
      have c21:=blk_cell b2 1
      have c30:=blk_cell b3 0
      have c31:=blk_cell b3 1
      have f30:=blk_frozen b3 0
      have f31:=blk_frozen b3 1
      simp only [List.getElem?_toArray,List.getElem?_cons_zero,List.getElem?_cons_succ] at c10 c11 c20 c21 c30 c31
      have B3:=Aside0.mk b3
      have BEL:=Aside0.mk bel
      clear b1 b2 b3 bel
      go_wp2_with fail
      refine (impl_ExtOK.calls a1_0 a1_1 true _ A2.out).mono ?_
      rintro e w2 ⟨rfl,hb2⟩
      clear c10 c11 c20 c21 c30 c31 f30 f31 B3 BEL hz
      have hb12:=hb1.trans (hb2.mono hb1.size)
      clear hb1 hb2
      obtain ⟨b1,b2,b3,bel,hz⟩:=ext3 hb12
      have c10:=blk_cell b1 0
      have c11:=blk_cell b1 1
      have c20:=blk_cell b2 0
      have c21:=blk_cell b2 1
      have c30:=blk_cell b3 0
      have c31:=blk_cell b3 1
      have f30:=blk_frozen b3 0
      have f31:=blk_frozen b3 1
      simp only [List.getElem?_toArray,List.getElem?_cons_zero,List.getElem?_cons_succ] at c10 c11 c20 c21 c30 c31
      have B3:=Aside0.mk b3
      have BEL:=Aside0.mk bel
      clear b1 b2 b3 bel
      go_wp2_with fail
      refine (impl_Ext_plus.calls a0_0 a0_1 a1_0 a1_1 t1 t2 _ A3.out).mono ?_
      rintro e w3 ⟨rfl,hb3⟩
      clear c10 c11 c20 c21 c30 c31 f30 f31 B3 BEL hz
      obtain ⟨b1,b2,b3,bel,hz⟩:=ext3 (hb12.trans (hb3.mono hb12.size))
      have c10:=blk_cell b1 0
      have c11:=blk_cell b1 1
      have c20:=blk_cell b2 0
      have c21:=blk_cell b2 1
      have c30:=blk_cell b3 0
      have c31:=blk_cell b3 1
      have f30:=blk_frozen b3 0
      have f31:=blk_frozen b3 1
      simp only [List.getElem?_toArray,List.getElem?_cons_zero,List.getElem?_cons_succ] at c10 c11 c20 c21 c30 c31
      have B3:=Aside0.mk b3
      have BEL:=Aside0.mk bel
      clear b1 b2 b3 bel
      go_wp2_with fail
      refine bodyPost_ret (results_ct rfl _ _ (w.heap.size + 1 + 1) 24 #[.int .i64 t1,.int .i64 t2] (0,0) _ rfl (blk_put (cs:= #[.int .i64 t1,.int .i64 0]) (blk_put (cs:= #[.int .i64 0,.int .i64 0]) B3.out 0 _ rfl) 1 _ rfl) Try.underlying24 rfl (by kernel_rfl)) rfl ?_
      exact ⟨rfl,below_set (below_set BEL.out (by omega)) (by omega)⟩
def extTwo_minus.f (a0_0:Int) (a0_1:Int) (a1_0:Int) (a1_1:Int):Option (Int × Int × Int):=
  (impl_ExtOK.f a0_0 a0_1).bind fun p=> if p=true then (impl_ExtOK.f a1_0 a1_1).bind fun q=> if q=true then (impl_Ext_minus.f a0_0 a0_1 a1_0 a1_1).bind fun t=> some (t.1,t.2,0) else some (0,0,1) else some (0,0,1)
set_option maxHeartbeats 4000000 in
theorem extTwo_minus.calls (a0_0:Int) (a0_1:Int) (a1_0:Int) (a1_1:Int) (r1:Int) (r2:Int) (r3:Int) (w:World) (h:extTwo_minus.f a0_0 a0_1 a1_0 a1_1=some (r1,r2,r3)):
    Calls Try.prog 75 #[.agg #[.int .i64 a0_0,.int .i64 a0_1],.agg #[.int .i64 a1_0,.int .i64 a1_1],.func (.func 78) #[] #[]] w fun e w'=> e= .returned (.tuple #[.agg #[.int .i64 r1,.int .i64 r2],.int .i64 r3]) ∧ Below w.heap.size w w':=by
  have hu:=Try.underlying24
  unfold extTwo_minus.f at h
  obtain ⟨p,hp,h⟩:=Option.bind_eq_some_iff.mp h
  have A1:=Aside0.mk hp
  clear hp
  cases p with
  |false=>
    simp only [Bool.false_eq_true,if_false,Option.some.injEq,Prod.mk.injEq] at h
    obtain ⟨rfl,rfl,rfl⟩:=h
    go_enter Try.func75,Try.ntmps75
    go_wp2_with fail
    refine (impl_ExtOK.calls a0_0 a0_1 false _ A1.out).mono ?_
    rintro e w1 ⟨rfl,hb1⟩
    obtain ⟨b1,b2,b3,bel,hz⟩:=ext3 hb1
    have c10:=blk_cell b1 0
    have c11:=blk_cell b1 1
    have c20:=blk_cell b2 0
    have c21:=blk_cell b2 1
    have c30:=blk_cell b3 0
    have c31:=blk_cell b3 1
    have f30:=blk_frozen b3 0
    have f31:=blk_frozen b3 1
    simp only [List.getElem?_toArray,List.getElem?_cons_zero,List.getElem?_cons_succ] at c10 c11 c20 c21 c30 c31
    have B3:=Aside0.mk b3
    have BEL:=Aside0.mk bel
    clear b1 b2 b3 bel
    go_wp2_with fail
    refine bodyPost_ret (results_ct rfl _ _ (w.heap.size + 1 + 1) 24 #[.int .i64 0,.int .i64 0] (0,0) _ rfl (blk_put (cs:= #[.int .i64 0,.int .i64 0]) (blk_put (cs:= #[.int .i64 0,.int .i64 0]) B3.out 0 _ rfl) 1 _ rfl) Try.underlying24 rfl (by kernel_rfl)) rfl ?_
    exact ⟨rfl,below_set (below_set BEL.out (by omega)) (by omega)⟩
  |true=>
    simp only [if_true] at h
    obtain ⟨q,hq,h⟩:=Option.bind_eq_some_iff.mp h
    have A2:=Aside0.mk hq
    clear hq
    cases q with
    |false=>
      simp only [Bool.false_eq_true,if_false,Option.some.injEq,Prod.mk.injEq] at h
      obtain ⟨rfl,rfl,rfl⟩:=h
      go_enter Try.func75,Try.ntmps75
      go_wp2_with fail
      refine (impl_ExtOK.calls a0_0 a0_1 true _ A1.out).mono ?_
      rintro e w1 ⟨rfl,hb1⟩
      obtain ⟨b1,b2,b3,bel,hz⟩:=ext3 hb1
      have c10:=blk_cell b1 0
      have c11:=blk_cell b1 1
      have c20:=blk_cell b2 0
      have c21:=blk_cell b2 1
      have c30:=blk_cell b3 0
      have c31:=blk_cell b3 1
      have f30:=blk_frozen b3 0
      have f31:=blk_frozen b3 1
      simp only [List.getElem?_toArray,List.getElem?_cons_zero,List.getElem?_cons_succ] at c10 c11 c20 c21 c30 c31
      have B3:=Aside0.mk b3
      have BEL:=Aside0.mk bel
      clear b1 b2 b3 bel
      go_wp2_with fail
      refine (impl_ExtOK.calls a1_0 a1_1 false _ A2.out).mono ?_
      rintro e w2 ⟨rfl,hb2⟩
      clear c10 c11 c20 c21 c30 c31 f30 f31 B3 BEL hz
      obtain ⟨b1,b2,b3,bel,hz⟩:=ext3 (hb1.trans (hb2.mono hb1.size))
      have c10:=blk_cell b1 0
      have c11:=blk_cell b1 1
      have c20:=blk_cell b2 0
      have c21:=blk_cell b2 1
      have c30:=blk_cell b3 0
      have c31:=blk_cell b3 1
      have f30:=blk_frozen b3 0
      have f31:=blk_frozen b3 1
      simp only [List.getElem?_toArray,List.getElem?_cons_zero,List.getElem?_cons_succ] at c10 c11 c20 c21 c30 c31
      have B3:=Aside0.mk b3
      have BEL:=Aside0.mk bel
      clear b1 b2 b3 bel
      go_wp2_with fail
      refine bodyPost_ret (results_ct rfl _ _ (w.heap.size + 1 + 1) 24 #[.int .i64 0,.int .i64 0] (0,0) _ rfl (blk_put (cs:= #[.int .i64 0,.int .i64 0]) (blk_put (cs:= #[.int .i64 0,.int .i64 0]) B3.out 0 _ rfl) 1 _ rfl) Try.underlying24 rfl (by kernel_rfl)) rfl ?_
      exact ⟨rfl,below_set (below_set BEL.out (by omega)) (by omega)⟩
    |true=>
      simp only [if_true] at h
      obtain ⟨⟨t1,t2⟩,ht,h⟩:=Option.bind_eq_some_iff.mp h
      simp only [Option.some.injEq,Prod.mk.injEq] at h
      obtain ⟨rfl,rfl,rfl⟩:=h
      have A3:=Aside0.mk ht
      clear ht
      go_enter Try.func75,Try.ntmps75
      go_wp2_with fail
      refine (impl_ExtOK.calls a0_0 a0_1 true _ A1.out).mono ?_
      rintro e w1 ⟨rfl,hb1⟩
      obtain ⟨b1,b2,b3,bel,hz⟩:=ext3 hb1
      have c10:=blk_cell b1 0
      have c11:=blk_cell b1 1
      have c20:=blk_cell b2 0
      have c21:=blk_cell b2 1
      have c30:=blk_cell b3 0
      have c31:=blk_cell b3 1
      have f30:=blk_frozen b3 0
      have f31:=blk_frozen b3 1
      simp only [List.getElem?_toArray,List.getElem?_cons_zero,List.getElem?_cons_succ] at c10 c11 c20 c21 c30 c31
      have B3:=Aside0.mk b3
      have BEL:=Aside0.mk bel
      clear b1 b2 b3 bel
      go_wp2_with fail
      refine (impl_ExtOK.calls a1_0 a1_1 true _ A2.out).mono ?_
      rintro e w2 ⟨rfl,hb2⟩
      clear c10 c11 c20 c21 c30 c31 f30 f31 B3 BEL hz
      have hb12:=hb1.trans (hb2.mono hb1.size)
      clear hb1 hb2
      obtain ⟨b1,b2,b3,bel,hz⟩:=ext3 hb12
      have c10:=blk_cell b1 0
      have c11:=blk_cell b1 1
      have c20:=blk_cell b2 0
      have c21:=blk_cell b2 1
      have c30:=blk_cell b3 0
      have c31:=blk_cell b3 1
      have f30:=blk_frozen b3 0
      have f31:=blk_frozen b3 1
      simp only [List.getElem?_toArray,List.getElem?_cons_zero,List.getElem?_cons_succ] at c10 c11 c20 c21 c30 c31
      have B3:=Aside0.mk b3
      have BEL:=Aside0.mk bel
      clear b1 b2 b3 bel
      go_wp2_with fail
      refine (impl_Ext_minus.calls a0_0 a0_1 a1_0 a1_1 t1 t2 _ A3.out).mono ?_
      rintro e w3 ⟨rfl,hb3⟩
      clear c10 c11 c20 c21 c30 c31 f30 f31 B3 BEL hz
      obtain ⟨b1,b2,b3,bel,hz⟩:=ext3 (hb12.trans (hb3.mono hb12.size))
      have c10:=blk_cell b1 0
      have c11:=blk_cell b1 1
      have c20:=blk_cell b2 0
      have c21:=blk_cell b2 1
      have c30:=blk_cell b3 0
      have c31:=blk_cell b3 1
      have f30:=blk_frozen b3 0
      have f31:=blk_frozen b3 1
      simp only [List.getElem?_toArray,List.getElem?_cons_zero,List.getElem?_cons_succ] at c10 c11 c20 c21 c30 c31
      have B3:=Aside0.mk b3
      have BEL:=Aside0.mk bel
      clear b1 b2 b3 bel
      go_wp2_with fail
      refine bodyPost_ret (results_ct rfl _ _ (w.heap.size + 1 + 1) 24 #[.int .i64 t1,.int .i64 t2] (0,0) _ rfl (blk_put (cs:= #[.int .i64 t1,.int .i64 0]) (blk_put (cs:= #[.int .i64 0,.int .i64 0]) B3.out 0 _ rfl) 1 _ rfl) Try.underlying24 rfl (by kernel_rfl)) rfl ?_
      exact ⟨rfl,below_set (below_set BEL.out (by omega)) (by omega)⟩
def extTwo_times.f (a0_0:Int) (a0_1:Int) (a1_0:Int) (a1_1:Int):Option (Int × Int × Int):=
  (impl_ExtOK.f a0_0 a0_1).bind fun p=> if p=true then (impl_ExtOK.f a1_0 a1_1).bind fun q=> if q=true then (impl_Ext_times.f a0_0 a0_1 a1_0 a1_1).bind fun t=> some (t.1,t.2,0) else some (0,0,1) else some (0,0,1)
set_option maxHeartbeats 4000000 in
theorem extTwo_times.calls (a0_0:Int) (a0_1:Int) (a1_0:Int) (a1_1:Int) (r1:Int) (r2:Int) (r3:Int) (w:World) (h:extTwo_times.f a0_0 a0_1 a1_0 a1_1=some (r1,r2,r3)):
    Calls Try.prog 75 #[.agg #[.int .i64 a0_0,.int .i64 a0_1],.agg #[.int .i64 a1_0,.int .i64 a1_1],.func (.func 80) #[] #[]] w fun e w'=> e= .returned (.tuple #[.agg #[.int .i64 r1,.int .i64 r2],.int .i64 r3]) ∧ Below w.heap.size w w':=by
  have hu:=Try.underlying24
  unfold extTwo_times.f at h
  obtain ⟨p,hp,h⟩:=Option.bind_eq_some_iff.mp h
  have A1:=Aside0.mk hp
  clear hp
  cases p with
  |false=>
    simp only [Bool.false_eq_true,if_false,Option.some.injEq,Prod.mk.injEq] at h
    obtain ⟨rfl,rfl,rfl⟩:=h
    go_enter Try.func75,Try.ntmps75
    go_wp2_with fail
    refine (impl_ExtOK.calls a0_0 a0_1 false _ A1.out).mono ?_
    rintro e w1 ⟨rfl,hb1⟩
    obtain ⟨b1,b2,b3,bel,hz⟩:=ext3 hb1
    have c10:=blk_cell b1 0
    have c11:=blk_cell b1 1
    have c20:=blk_cell b2 0
    have c21:=blk_cell b2 1
    have c30:=blk_cell b3 0
    have c31:=blk_cell b3 1
    have f30:=blk_frozen b3 0
    have f31:=blk_frozen b3 1
    simp only [List.getElem?_toArray,List.getElem?_cons_zero,List.getElem?_cons_succ] at c10 c11 c20 c21 c30 c31
    have B3:=Aside0.mk b3
    have BEL:=Aside0.mk bel
    clear b1 b2 b3 bel
    go_wp2_with fail
    refine bodyPost_ret (results_ct rfl _ _ (w.heap.size + 1 + 1) 24 #[.int .i64 0,.int .i64 0] (0,0) _ rfl (blk_put (cs:= #[.int .i64 0,.int .i64 0]) (blk_put (cs:= #[.int .i64 0,.int .i64 0]) B3.out 0 _ rfl) 1 _ rfl) Try.underlying24 rfl (by kernel_rfl)) rfl ?_
    exact ⟨rfl,below_set (below_set BEL.out (by omega)) (by omega)⟩
  |true=>
    simp only [if_true] at h
    obtain ⟨q,hq,h⟩:=Option.bind_eq_some_iff.mp h
    have A2:=Aside0.mk hq
    clear hq
    cases q with
    |false=>
      simp only [Bool.false_eq_true,if_false,Option.some.injEq,Prod.mk.injEq] at h
      obtain ⟨rfl,rfl,rfl⟩:=h
      go_enter Try.func75,Try.ntmps75
      go_wp2_with fail
      refine (impl_ExtOK.calls a0_0 a0_1 true _ A1.out).mono ?_
      rintro e w1 ⟨rfl,hb1⟩
      obtain ⟨b1,b2,b3,bel,hz⟩:=ext3 hb1
      have c10:=blk_cell b1 0
      have c11:=blk_cell b1 1
      have c20:=blk_cell b2 0
      have c21:=blk_cell b2 1
      have c30:=blk_cell b3 0
      have c31:=blk_cell b3 1
      have f30:=blk_frozen b3 0
      have f31:=blk_frozen b3 1
      simp only [List.getElem?_toArray,List.getElem?_cons_zero,List.getElem?_cons_succ] at c10 c11 c20 c21 c30 c31
      have B3:=Aside0.mk b3
      have BEL:=Aside0.mk bel
      clear b1 b2 b3 bel
      go_wp2_with fail
      refine (impl_ExtOK.calls a1_0 a1_1 false _ A2.out).mono ?_
      rintro e w2 ⟨rfl,hb2⟩
      clear c10 c11 c20 c21 c30 c31 f30 f31 B3 BEL hz
      obtain ⟨b1,b2,b3,bel,hz⟩:=ext3 (hb1.trans (hb2.mono hb1.size))
      have c10:=blk_cell b1 0
      have c11:=blk_cell b1 1
      have c20:=blk_cell b2 0
      have c21:=blk_cell b2 1
      have c30:=blk_cell b3 0
      have c31:=blk_cell b3 1
      have f30:=blk_frozen b3 0
      have f31:=blk_frozen b3 1
      simp only [List.getElem?_toArray,List.getElem?_cons_zero,List.getElem?_cons_succ] at c10 c11 c20 c21 c30 c31
      have B3:=Aside0.mk b3
      have BEL:=Aside0.mk bel
      clear b1 b2 b3 bel
      go_wp2_with fail
      refine bodyPost_ret (results_ct rfl _ _ (w.heap.size + 1 + 1) 24 #[.int .i64 0,.int .i64 0] (0,0) _ rfl (blk_put (cs:= #[.int .i64 0,.int .i64 0]) (blk_put (cs:= #[.int .i64 0,.int .i64 0]) B3.out 0 _ rfl) 1 _ rfl) Try.underlying24 rfl (by kernel_rfl)) rfl ?_
      exact ⟨rfl,below_set (below_set BEL.out (by omega)) (by omega)⟩
    |true=>
      simp only [if_true] at h
      obtain ⟨⟨t1,t2⟩,ht,h⟩:=Option.bind_eq_some_iff.mp h
      simp only [Option.some.injEq,Prod.mk.injEq] at h
      obtain ⟨rfl,rfl,rfl⟩:=h
      have A3:=Aside0.mk ht
      clear ht
      go_enter Try.func75,Try.ntmps75
      go_wp2_with fail
      refine (impl_ExtOK.calls a0_0 a0_1 true _ A1.out).mono ?_
      rintro e w1 ⟨rfl,hb1⟩
      obtain ⟨b1,b2,b3,bel,hz⟩:=ext3 hb1
      have c10:=blk_cell b1 0
      have c11:=blk_cell b1 1
      have c20:=blk_cell b2 0
      have c21:=blk_cell b2 1
      have c30:=blk_cell b3 0
      have c31:=blk_cell b3 1
      have f30:=blk_frozen b3 0
      have f31:=blk_frozen b3 1
      simp only [List.getElem?_toArray,List.getElem?_cons_zero,List.getElem?_cons_succ] at c10 c11 c20 c21 c30 c31
      have B3:=Aside0.mk b3
      have BEL:=Aside0.mk bel
      clear b1 b2 b3 bel
      go_wp2_with fail
      refine (impl_ExtOK.calls a1_0 a1_1 true _ A2.out).mono ?_
      rintro e w2 ⟨rfl,hb2⟩
      clear c10 c11 c20 c21 c30 c31 f30 f31 B3 BEL hz
      have hb12:=hb1.trans (hb2.mono hb1.size)
      clear hb1 hb2
      obtain ⟨b1,b2,b3,bel,hz⟩:=ext3 hb12
      have c10:=blk_cell b1 0
      have c11:=blk_cell b1 1
      have c20:=blk_cell b2 0
      have c21:=blk_cell b2 1
      have c30:=blk_cell b3 0
      have c31:=blk_cell b3 1
      have f30:=blk_frozen b3 0
      have f31:=blk_frozen b3 1
      simp only [List.getElem?_toArray,List.getElem?_cons_zero,List.getElem?_cons_succ] at c10 c11 c20 c21 c30 c31
      have B3:=Aside0.mk b3
      have BEL:=Aside0.mk bel
      clear b1 b2 b3 bel
      go_wp2_with fail
      refine (impl_Ext_times.calls a0_0 a0_1 a1_0 a1_1 t1 t2 _ A3.out).mono ?_
      rintro e w3 ⟨rfl,hb3⟩
      clear c10 c11 c20 c21 c30 c31 f30 f31 B3 BEL hz
      obtain ⟨b1,b2,b3,bel,hz⟩:=ext3 (hb12.trans (hb3.mono hb12.size))
      have c10:=blk_cell b1 0
      have c11:=blk_cell b1 1
      have c20:=blk_cell b2 0
      have c21:=blk_cell b2 1
      have c30:=blk_cell b3 0
      have c31:=blk_cell b3 1
      have f30:=blk_frozen b3 0
      have f31:=blk_frozen b3 1
      simp only [List.getElem?_toArray,List.getElem?_cons_zero,List.getElem?_cons_succ] at c10 c11 c20 c21 c30 c31
      have B3:=Aside0.mk b3
      have BEL:=Aside0.mk bel
      clear b1 b2 b3 bel
      go_wp2_with fail
      refine bodyPost_ret (results_ct rfl _ _ (w.heap.size + 1 + 1) 24 #[.int .i64 t1,.int .i64 t2] (0,0) _ rfl (blk_put (cs:= #[.int .i64 t1,.int .i64 0]) (blk_put (cs:= #[.int .i64 0,.int .i64 0]) B3.out 0 _ rfl) 1 _ rfl) Try.underlying24 rfl (by kernel_rfl)) rfl ?_
      exact ⟨rfl,below_set (below_set BEL.out (by omega)) (by omega)⟩
end Go.Proofs.Ytnggbahcmhdjnaa.Print
