-- Packed by a program of this session (slim.py) out of printed texts; not trusted, Lean checks it.
import Derived.Test.YtlogocmojnhpbaaP0
import Derived.Test.YtlogocmojnhpbaaQFnExactAbsorbText1
import Derived.Test.YtlogocmojnhpbaaQFnExactAbsorbText2
import Derived.Test.YtlogocmojnhpbaaQFnExactAbsorbText3
import Derived.Test.YtlogocmojnhpbaaQFnExactAbsorbText4
namespace Go.Proofs.Ytlogocmojnhpbaa.Print
open Go.RowKit Go.Proofs.YtlogocmojnhpbaaW.PrintWords Go.Proofs.YtlogocmojnhpbaaW.PrintLast Go.Proofs.YtlogocmojnhpbaaW.PrintMore
attribute [local go_sem] max2_int min2_int max_two min_two max_three min_three max_four min_four
set_option linter.unusedVariables false
set_option linter.unusedSimpArgs false
mutual
def laws_FnExactAbsorbText.j0:Nat → ByteArray → Int → Int → Bool → List (S125) → Int → ByteArray → Int → List (S79) → Int → ByteArray → Int → List (S79) → Int → ByteArray → Int → List (S79) → Int → ByteArray → Int → Option (Bool)
  |0,_,_,_,_,_,_,_,_,_,_,_,_,_,_,_,_,_,_,_,_=> none
  |k + 1,x1,x7,x10,x47,x439000,x439001,x439002,x439003,x454000,x454001,x454002,x454003,x461000,x461001,x461002,x461003,x469000,x469001,x469002,x469003=> if x47=true then (none) else ((laws_toSource.f k x439000 x439001 x439002 x439003).bind fun bt470=> ((laws_eqSource.f k x461000 x461001 x461002 x461003 bt470.1 bt470.2.1 bt470.2.2.1 bt470.2.2.2).bind fun t476=> (if t476=true then ((laws_markSource.f k x461000 x461001 x461002 x461003 1).bind fun bt477=> (if bt477.1 < 0 then (none) else ((laws_eqSource.f k x469000 x469001 x469002 x469003 x454000 x454001 x454002 x454003).bind fun t479=> (if t479=true then (laws_FnExactAbsorbText.j1 k x1 x7 (x10 !=x7) x439000 x439001 x439002 x439003 x454000 x454001 x454002 x454003 x469000 x469001 x469002 x469003) else (none))))) else (none))))
def laws_FnExactAbsorbText.j1:Nat → ByteArray → Int → Bool → List (S125) → Int → ByteArray → Int → List (S79) → Int → ByteArray → Int → List (S79) → Int → ByteArray → Int → Option (Bool)
  |0,_,_,_,_,_,_,_,_,_,_,_,_,_,_,_=> none
  |k + 1,x1,x7,x68,x439000,x439001,x439002,x439003,x454000,x454001,x454002,x454003,x469000,x469001,x469002,x469003=> if x68=true then (none) else ((laws_markSource.f k x469000 x469001 x469002 x469003 1).bind fun bt480=> ((laws_heldSource.f k bt480.2 x469001 x469002 x469003 1).bind fun t482=> (if t482 < 0 then (none) else (if t482=bt480.1 then ((laws_toSource.f k x439000 x439001 x439002 x439003).bind fun bt483=> ((impl_AbsorbText.f bt483.1 bt483.2.1 bt483.2.2.1 bt483.2.2.2 x1).bind fun bt489=> ((laws_eqSource.f k bt489.1 bt489.2.1 bt489.2.2.1 bt489.2.2.2.1 x454000 x454001 x454002 x454003).bind fun t497=> (if t497=true then (laws_FnExactAbsorbText.j2 k bt480.1 (bt489.2.2.2.2 !=x7) bt480.2 x469001 x469002 x469003) else (none))))) else (none)))))
def laws_FnExactAbsorbText.j2:Nat → Int → Bool → List (S79) → Int → ByteArray → Int → Option (Bool)
  |0,_,_,_,_,_,_=> none
  |k + 1,x12,x95,x469000,x469001,x469002,x469003=> if x95=true then (none) else ((laws_heldSource.f k x469000 x469001 x469002 x469003 1).bind fun t498=> (if t498 < 0 then (none) else (if t498=x12 then (some true) else (none))))
end
def laws_FnExactAbsorbText.f (k:Nat) (l0_0:List (S125)) (a0_1:Int) (a0_2:ByteArray) (a0_3:Int) (a1:ByteArray):Option (Bool):=if (a1.size:Int) > 1048576 then (some true) else ((laws_szSource.f l0_0 a0_1 a0_2 a0_3 1048576).bind fun t439=> (if t439 < 0 then (some true) else ((laws_toSource.f k l0_0 a0_1 a0_2 a0_3).bind fun bt440=> ((spec_AbsorbText.f k bt440.1 bt440.2.1 bt440.2.2.1 bt440.2.2.2 a1).bind fun bt446=> ((laws_toSource.f k l0_0 a0_1 a0_2 a0_3).bind fun bt454=> ((impl_AbsorbText.f bt454.1 bt454.2.1 bt454.2.2.1 bt454.2.2.2 a1).bind fun bt461=> ((laws_eqSource.f k bt461.1 bt461.2.1 bt461.2.2.1 bt461.2.2.2.1 bt446.1 bt446.2.1 bt446.2.2.1 bt446.2.2.2.1).bind fun t469=> (if t469=true then (laws_FnExactAbsorbText.j0 k a1 bt446.2.2.2.2 bt461.2.2.2.2 (bt461.2.2.2.2 !=bt446.2.2.2.2) l0_0 a0_1 a0_2 a0_3 bt446.1 bt446.2.1 bt446.2.2.1 bt446.2.2.2.1 bt454.1 bt454.2.1 bt454.2.2.1 bt454.2.2.2 bt461.1 bt461.2.1 bt461.2.2.1 bt461.2.2.2.1) else (none)))))))))
theorem laws_FnExactAbsorbText.mono_l:∀ k,(∀ y0 y1 y2 y3 y4 y5 y6 y7 y8 y9 y10 y11 y12 y13 y14 y15 y16 y17 y18 y19,LeO (laws_FnExactAbsorbText.j0 k y0 y1 y2 y3 y4 y5 y6 y7 y8 y9 y10 y11 y12 y13 y14 y15 y16 y17 y18 y19) (laws_FnExactAbsorbText.j0 (k + 1) y0 y1 y2 y3 y4 y5 y6 y7 y8 y9 y10 y11 y12 y13 y14 y15 y16 y17 y18 y19)) ∧ (∀ y0 y1 y2 y3 y4 y5 y6 y7 y8 y9 y10 y11 y12 y13 y14,LeO (laws_FnExactAbsorbText.j1 k y0 y1 y2 y3 y4 y5 y6 y7 y8 y9 y10 y11 y12 y13 y14) (laws_FnExactAbsorbText.j1 (k + 1) y0 y1 y2 y3 y4 y5 y6 y7 y8 y9 y10 y11 y12 y13 y14)) ∧ (∀ y0 y1 y2 y3 y4 y5,LeO (laws_FnExactAbsorbText.j2 k y0 y1 y2 y3 y4 y5) (laws_FnExactAbsorbText.j2 (k + 1) y0 y1 y2 y3 y4 y5))
  |0=> ⟨fun _ _ _ _ _ _ _ _ _ _ _ _ _ _ _ _ _ _ _ _ r h=> by simp [laws_FnExactAbsorbText.j0] at h,fun _ _ _ _ _ _ _ _ _ _ _ _ _ _ _ r h=> by simp [laws_FnExactAbsorbText.j1] at h,fun _ _ _ _ _ _ r h=> by simp [laws_FnExactAbsorbText.j2] at h⟩
  |k + 1=> by
    obtain ⟨ih0,ih1,ih2⟩:=laws_FnExactAbsorbText.mono_l k
    refine ⟨?_,?_,?_⟩
    · intro y0 y1 y2 y3 y4 y5 y6 y7 y8 y9 y10 y11 y12 y13 y14 y15 y16 y17 y18 y19
      unfold laws_FnExactAbsorbText.j0
      repeat' first
      |(with_reducible exact ih0 _ _ _ _ _ _ _ _ _ _ _ _ _ _ _ _ _ _ _ _)
      |(with_reducible exact ih1 _ _ _ _ _ _ _ _ _ _ _ _ _ _ _)
      |(with_reducible exact ih2 _ _ _ _ _ _)
      |(with_reducible exact laws_eqSource.mono _ _ _ _ _ _ _ _ _)
      |(with_reducible exact laws_heldSource.mono _ _ _ _ _ _)
      |(with_reducible exact laws_markSource.mono _ _ _ _ _ _)
      |(with_reducible exact laws_toSource.mono _ _ _ _ _)
      |(with_reducible exact spec_AbsorbText.mono _ _ _ _ _ _)
      |(with_reducible exact LeO.refl _)
      |(with_reducible exact LeO.none _)
      |(with_reducible refine LeO.ite ?_ ?_)
      |(with_reducible refine LeO.bind ?_ (fun _=> ?_))
      |exact ih0 _ _ _ _ _ _ _ _ _ _ _ _ _ _ _ _ _ _ _ _
      |exact ih1 _ _ _ _ _ _ _ _ _ _ _ _ _ _ _
      |exact ih2 _ _ _ _ _ _
      |exact laws_eqSource.mono _ _ _ _ _ _ _ _ _
      |exact laws_heldSource.mono _ _ _ _ _ _
      |exact laws_markSource.mono _ _ _ _ _ _
      |exact laws_toSource.mono _ _ _ _ _
      |exact spec_AbsorbText.mono _ _ _ _ _ _
      |exact LeO.none _
      |refine LeO.ite ?_ ?_
      |refine LeO.bind ?_ (fun _=> ?_)
    · intro y0 y1 y2 y3 y4 y5 y6 y7 y8 y9 y10 y11 y12 y13 y14
      unfold laws_FnExactAbsorbText.j1
      repeat' first
      |(with_reducible exact ih0 _ _ _ _ _ _ _ _ _ _ _ _ _ _ _ _ _ _ _ _)
      |(with_reducible exact ih1 _ _ _ _ _ _ _ _ _ _ _ _ _ _ _)
      |(with_reducible exact ih2 _ _ _ _ _ _)
      |(with_reducible exact laws_eqSource.mono _ _ _ _ _ _ _ _ _)
      |(with_reducible exact laws_heldSource.mono _ _ _ _ _ _)
      |(with_reducible exact laws_markSource.mono _ _ _ _ _ _)
      |(with_reducible exact laws_toSource.mono _ _ _ _ _)
      |(with_reducible exact spec_AbsorbText.mono _ _ _ _ _ _)
      |(with_reducible exact LeO.refl _)
      |(with_reducible exact LeO.none _)
      |(with_reducible refine LeO.ite ?_ ?_)
      |(with_reducible refine LeO.bind ?_ (fun _=> ?_))
      |exact ih0 _ _ _ _ _ _ _ _ _ _ _ _ _ _ _ _ _ _ _ _
      |exact ih1 _ _ _ _ _ _ _ _ _ _ _ _ _ _ _
      |exact ih2 _ _ _ _ _ _
      |exact laws_eqSource.mono _ _ _ _ _ _ _ _ _
      |exact laws_heldSource.mono _ _ _ _ _ _
      |exact laws_markSource.mono _ _ _ _ _ _
      |exact laws_toSource.mono _ _ _ _ _
      |exact spec_AbsorbText.mono _ _ _ _ _ _
      |exact LeO.none _
      |refine LeO.ite ?_ ?_
      |refine LeO.bind ?_ (fun _=> ?_)
    · intro y0 y1 y2 y3 y4 y5
      unfold laws_FnExactAbsorbText.j2
      repeat' first
      |(with_reducible exact ih0 _ _ _ _ _ _ _ _ _ _ _ _ _ _ _ _ _ _ _ _)
      |(with_reducible exact ih1 _ _ _ _ _ _ _ _ _ _ _ _ _ _ _)
      |(with_reducible exact ih2 _ _ _ _ _ _)
      |(with_reducible exact laws_eqSource.mono _ _ _ _ _ _ _ _ _)
      |(with_reducible exact laws_heldSource.mono _ _ _ _ _ _)
      |(with_reducible exact laws_markSource.mono _ _ _ _ _ _)
      |(with_reducible exact laws_toSource.mono _ _ _ _ _)
      |(with_reducible exact spec_AbsorbText.mono _ _ _ _ _ _)
      |(with_reducible exact LeO.refl _)
      |(with_reducible exact LeO.none _)
      |(with_reducible refine LeO.ite ?_ ?_)
      |(with_reducible refine LeO.bind ?_ (fun _=> ?_))
      |exact ih0 _ _ _ _ _ _ _ _ _ _ _ _ _ _ _ _ _ _ _ _
      |exact ih1 _ _ _ _ _ _ _ _ _ _ _ _ _ _ _
      |exact ih2 _ _ _ _ _ _
      |exact laws_eqSource.mono _ _ _ _ _ _ _ _ _
      |exact laws_heldSource.mono _ _ _ _ _ _
      |exact laws_markSource.mono _ _ _ _ _ _
      |exact laws_toSource.mono _ _ _ _ _
      |exact spec_AbsorbText.mono _ _ _ _ _ _
      |exact LeO.none _
      |refine LeO.ite ?_ ?_
      |refine LeO.bind ?_ (fun _=> ?_)
theorem laws_FnExactAbsorbText.mono:∀ a0 a1 a2 a3 a4 k,LeO (laws_FnExactAbsorbText.f k a0 a1 a2 a3 a4) (laws_FnExactAbsorbText.f (k + 1) a0 a1 a2 a3 a4):=by
  intro a0 a1 a2 a3 a4 k
  obtain ⟨ih0,ih1,ih2⟩:=laws_FnExactAbsorbText.mono_l k
  unfold laws_FnExactAbsorbText.f
  repeat' first
      |(with_reducible exact ih0 _ _ _ _ _ _ _ _ _ _ _ _ _ _ _ _ _ _ _ _)
      |(with_reducible exact ih1 _ _ _ _ _ _ _ _ _ _ _ _ _ _ _)
      |(with_reducible exact ih2 _ _ _ _ _ _)
      |(with_reducible exact laws_eqSource.mono _ _ _ _ _ _ _ _ _)
      |(with_reducible exact laws_heldSource.mono _ _ _ _ _ _)
      |(with_reducible exact laws_markSource.mono _ _ _ _ _ _)
      |(with_reducible exact laws_toSource.mono _ _ _ _ _)
      |(with_reducible exact spec_AbsorbText.mono _ _ _ _ _ _)
      |(with_reducible exact LeO.refl _)
      |(with_reducible exact LeO.none _)
      |(with_reducible refine LeO.ite ?_ ?_)
      |(with_reducible refine LeO.bind ?_ (fun _=> ?_))
      |exact ih0 _ _ _ _ _ _ _ _ _ _ _ _ _ _ _ _ _ _ _ _
      |exact ih1 _ _ _ _ _ _ _ _ _ _ _ _ _ _ _
      |exact ih2 _ _ _ _ _ _
      |exact laws_eqSource.mono _ _ _ _ _ _ _ _ _
      |exact laws_heldSource.mono _ _ _ _ _ _
      |exact laws_markSource.mono _ _ _ _ _ _
      |exact laws_toSource.mono _ _ _ _ _
      |exact spec_AbsorbText.mono _ _ _ _ _ _
      |exact LeO.none _
      |refine LeO.ite ?_ ?_
      |refine LeO.bind ?_ (fun _=> ?_)
set_option maxHeartbeats 8000000 in
set_option maxRecDepth 100000 in
theorem laws_FnExactAbsorbText.calls (k:Nat) (A0_0:Option Addr) (c0_0:Nat) (l0_0:List (S125)) (a0_1:Int) (a0_2:ByteArray) (a0_3:Int) (a1:ByteArray) (r:Bool) (w:World) (hr0_0:Kd.C k125 w A0_0 l0_0.length l0_0) (hc0_0:l0_0.length ≤ c0_0) (h:laws_FnExactAbsorbText.f k l0_0 a0_1 a0_2 a0_3 a1=some r):
    Calls Try.prog 16 #[.agg #[.slice A0_0 l0_0.length c0_0,.int .i64 a0_1,.string a0_2,.int .i64 a0_3],.string a1] w fun e w'=> e= .returned (.bool r) ∧ Below w.heap.size w w':=by
  have hu61:=Try.underlying61
  have hu36:=Try.underlying36
  have HR0_0:=Aside0.mk hr0_0
  have HC0_0:=Aside0.mk hc0_0
  clear hr0_0 hc0_0
  have HB:=Aside0.mk (Below.refl w.heap.size w)
  have H:(if (a1.size:Int) > 1048576 then (some true) else ((laws_szSource.f l0_0 a0_1 a0_2 a0_3 1048576).bind fun t439=> (if t439 < 0 then (some true) else ((laws_toSource.f k l0_0 a0_1 a0_2 a0_3).bind fun bt440=> ((spec_AbsorbText.f k bt440.1 bt440.2.1 bt440.2.2.1 bt440.2.2.2 a1).bind fun bt446=> ((laws_toSource.f k l0_0 a0_1 a0_2 a0_3).bind fun bt454=> ((impl_AbsorbText.f bt454.1 bt454.2.1 bt454.2.2.1 bt454.2.2.2 a1).bind fun bt461=> ((laws_eqSource.f k bt461.1 bt461.2.1 bt461.2.2.1 bt461.2.2.2.1 bt446.1 bt446.2.1 bt446.2.2.1 bt446.2.2.2.1).bind fun t469=> (if t469=true then (laws_FnExactAbsorbText.j0 k a1 bt446.2.2.2.2 bt461.2.2.2.2 (bt461.2.2.2.2 !=bt446.2.2.2.2) l0_0 a0_1 a0_2 a0_3 bt446.1 bt446.2.1 bt446.2.2.1 bt446.2.2.2.1 bt454.1 bt454.2.1 bt454.2.2.1 bt454.2.2.2 bt461.1 bt461.2.1 bt461.2.2.1 bt461.2.2.2.1) else (none))))))))))=some r:=h
  clear h
  by_cases c3:(a1.size:Int) > 1048576
  · rw [if_pos c3] at H
    have c3b0:decide (1048576 < (a1.size:Int))=true:=decide_eq_true c3
    have c3b1:decide (1048576 < a1.size)=true:=decide_eq_true (by omega)
    clear c3
    obtain rfl:=Option.some.inj H
    go_enter Try.func16,Try.ntmps16
    go_wp2_with (first|((with_reducible refine gate_dst (N:=2) rfl ?_);refine box_event ?hg (N:=2) ?hd (cs:= #[.slice A0_0 l0_0.length c0_0,.int .i64 a0_1,.string a0_2,.int .i64 a0_3]) (t:=61) ?hr ?_;(case hd=> rfl);(case hg=> rfl);(case hr=> first|(go_simp;done)|(go_simp;rfl));intro gb438 hg w4 hbox hb;have n0_:=Aside0.mk (below_step (by repeat (first|(with_reducible first|exact HB.out|apply below_alloc|apply pw_below_drewN|apply below_drew1)|exact HB.out)) hb);have n1_:=Aside0.mk (hbox);have n2_:=Aside0.mk ((by rw [hg];exact (below_size (by repeat (first|(with_reducible first|exact HB.out|apply below_alloc|apply pw_below_drewN|apply below_drew1)|exact HB.out))):w.heap.size ≤ gb438));have n3_:=Aside0.mk ((by rw [hg];exact (below_size (by repeat (first|(with_reducible first|exact HB.out|apply below_alloc|apply pw_below_drewN|apply below_drew1)|exact HB.out))):w.heap.size ≤ gb438));clear HB;have HB:=n0_;have BK438:=n1_;have GW438:=n2_;have GE438:=n3_;clear n0_ n1_ n2_ n3_;clear hb hbox hg))
    go_ret
    exact ⟨by first|rfl|(simp [errW_none,errW_some] <;> rfl)|(simp [*,errW_none,errW_some] <;> rfl),by repeat (first|(with_reducible first|exact HB.out|apply below_alloc|apply pw_below_drewN|apply below_drew1|refine below_set ?_ GE438.out)|exact HB.out)⟩
  · rw [if_neg c3] at H
    have c3b0:decide (1048576 < (a1.size:Int))=false:=decide_eq_false c3
    have c3b1:decide (1048576 < a1.size)=false:=decide_eq_false (by omega)
    clear c3
    replace H:=Option.bind_eq_some_iff.mp H
    obtain ⟨t439,A50,H⟩:=H
    replace H:(if t439 < 0 then (some true) else ((laws_toSource.f k l0_0 a0_1 a0_2 a0_3).bind fun bt440=> ((spec_AbsorbText.f k bt440.1 bt440.2.1 bt440.2.2.1 bt440.2.2.2 a1).bind fun bt446=> ((laws_toSource.f k l0_0 a0_1 a0_2 a0_3).bind fun bt454=> ((impl_AbsorbText.f bt454.1 bt454.2.1 bt454.2.2.1 bt454.2.2.2 a1).bind fun bt461=> ((laws_eqSource.f k bt461.1 bt461.2.1 bt461.2.2.1 bt461.2.2.2.1 bt446.1 bt446.2.1 bt446.2.2.1 bt446.2.2.2.1).bind fun t469=> (if t469=true then (laws_FnExactAbsorbText.j0 k a1 bt446.2.2.2.2 bt461.2.2.2.2 (bt461.2.2.2.2 !=bt446.2.2.2.2) l0_0 a0_1 a0_2 a0_3 bt446.1 bt446.2.1 bt446.2.2.1 bt446.2.2.2.1 bt454.1 bt454.2.1 bt454.2.2.1 bt454.2.2.2 bt461.1 bt461.2.1 bt461.2.2.1 bt461.2.2.2.1) else (none))))))))=some r:=H
    have A5:=Aside0.mk A50
    clear A50
    by_cases c6:t439 < 0
    · rw [if_pos c6] at H
      have c6b0:decide (t439 < 0)=true:=decide_eq_true c6
      clear c6
      obtain rfl:=Option.some.inj H
      go_enter Try.func16,Try.ntmps16
      go_wp2_with (first|((with_reducible refine gate_dst (N:=2) rfl ?_);refine box_event ?hg (N:=2) ?hd (cs:= #[.slice A0_0 l0_0.length c0_0,.int .i64 a0_1,.string a0_2,.int .i64 a0_3]) (t:=61) ?hr ?_;(case hd=> rfl);(case hg=> rfl);(case hr=> first|(go_simp;done)|(go_simp;rfl));intro gb438 hg w7 hbox hb;have n0_:=Aside0.mk (below_step (by repeat (first|(with_reducible first|exact HB.out|apply below_alloc|apply pw_below_drewN|apply below_drew1)|exact HB.out)) hb);have n1_:=Aside0.mk (hbox);have n2_:=Aside0.mk ((by rw [hg];exact (below_size (by repeat (first|(with_reducible first|exact HB.out|apply below_alloc|apply pw_below_drewN|apply below_drew1)|exact HB.out))):w.heap.size ≤ gb438));have n3_:=Aside0.mk ((by rw [hg];exact (below_size (by repeat (first|(with_reducible first|exact HB.out|apply below_alloc|apply pw_below_drewN|apply below_drew1)|exact HB.out))):w.heap.size ≤ gb438));clear HB;have HB:=n0_;have BK438:=n1_;have GW438:=n2_;have GE438:=n3_;clear n0_ n1_ n2_ n3_;clear hb hbox hg;have hcz8_0:w7.cell? ⟨gb438,0,none⟩=some (.slice A0_0 l0_0.length c0_0):=(blk_cell BK438.out 0).trans rfl;have hcz8_1:w7.cell? ⟨gb438,1,none⟩=some (.int .i64 a0_1):=(blk_cell BK438.out 1).trans rfl;have hcz8_2:w7.cell? ⟨gb438,2,none⟩=some (.string a0_2):=(blk_cell BK438.out 2).trans rfl;have hcz8_3:w7.cell? ⟨gb438,3,none⟩=some (.int .i64 a0_3):=(blk_cell BK438.out 3).trans rfl;have hfz8_0:=blk_frozen BK438.out 0;have hfz8_1:=blk_frozen BK438.out 1;have hfz8_2:=blk_frozen BK438.out 2;have hfz8_3:=blk_frozen BK438.out 3)|((with_reducible refine gate_callee (f:=53) rfl ?_);refine goesL_ (some 21) rfl rfl Try.func53 (by kernel_rfl) rfl #[.agg #[.slice A0_0 l0_0.length c0_0,.int .i64 a0_1,.string a0_2,.int .i64 a0_3],.int .i64 1048576] rfl (by (try simp only [List.map_toArray,List.map_cons,List.map_nil]);first|done|rfl|(simp only [List.length_drop,List.length_take];rfl)) ?_;(with_reducible refine (laws_szSource.calls _ _ l0_0 a0_1 a0_2 a0_3 1048576 t439 _ ?side1 ?side2 A5.out).mono ?_);(case side1=> repeat (first|exact (Kd.C_below HR0_0.out HB.out)|(with_reducible refine Kd.C_alloc ?_ _)|(with_reducible refine Kd.C_drewN ?_ _)|(with_reducible refine Kd.C_drew ?_)));(case side2=> exact HC0_0.out);rintro e w9 ⟨rfl,hb⟩;refine ⟨_,rfl,?_⟩;have n0_:=Aside0.mk (blk_below (g:=gb438) (o:= .cells #[.slice A0_0 l0_0.length c0_0,.int .i64 a0_1,.string a0_2,.int .i64 a0_3] 61 (0,0)) (by (with_reducible repeat (first|apply bN|apply bd|apply bA));exact BK438.out) hb);have n1_:=Aside0.mk (below_step (by repeat (first|(with_reducible first|exact HB.out|apply below_alloc|apply pw_below_drewN|apply below_drew1|refine below_set ?_ GE438.out)|exact HB.out)) hb);clear BK438;clear HB;have BK438:=n0_;have HB:=n1_;clear n0_ n1_;(try clear hb);(try clear hb2);(try clear hk);(try clear hi)))
      go_ret
      exact ⟨by first|rfl|(simp [errW_none,errW_some] <;> rfl)|(simp [*,errW_none,errW_some] <;> rfl),by repeat (first|(with_reducible first|exact HB.out|apply below_alloc|apply pw_below_drewN|apply below_drew1|refine below_set ?_ GE438.out)|exact HB.out)⟩
    · rw [if_neg c6] at H
      have c6b0:decide (t439 < 0)=false:=decide_eq_false c6
      clear c6
      replace H:=Option.bind_eq_some_iff.mp H
      obtain ⟨⟨t440,t443,t444,t445⟩,A100,H⟩:=H
      replace H:((spec_AbsorbText.f k t440 t443 t444 t445 a1).bind fun bt446=> ((laws_toSource.f k l0_0 a0_1 a0_2 a0_3).bind fun bt454=> ((impl_AbsorbText.f bt454.1 bt454.2.1 bt454.2.2.1 bt454.2.2.2 a1).bind fun bt461=> ((laws_eqSource.f k bt461.1 bt461.2.1 bt461.2.2.1 bt461.2.2.2.1 bt446.1 bt446.2.1 bt446.2.2.1 bt446.2.2.2.1).bind fun t469=> (if t469=true then (laws_FnExactAbsorbText.j0 k a1 bt446.2.2.2.2 bt461.2.2.2.2 (bt461.2.2.2.2 !=bt446.2.2.2.2) l0_0 a0_1 a0_2 a0_3 bt446.1 bt446.2.1 bt446.2.2.1 bt446.2.2.2.1 bt454.1 bt454.2.1 bt454.2.2.1 bt454.2.2.2 bt461.1 bt461.2.1 bt461.2.2.1 bt461.2.2.2.1) else (none))))))=some r:=H
      have A10:=Aside0.mk A100
      clear A100
      replace H:=Option.bind_eq_some_iff.mp H
      obtain ⟨⟨t446,t449,t450,t451,t452⟩,A110,H⟩:=H
      replace H:((laws_toSource.f k l0_0 a0_1 a0_2 a0_3).bind fun bt454=> ((impl_AbsorbText.f bt454.1 bt454.2.1 bt454.2.2.1 bt454.2.2.2 a1).bind fun bt461=> ((laws_eqSource.f k bt461.1 bt461.2.1 bt461.2.2.1 bt461.2.2.2.1 t446 t449 t450 t451).bind fun t469=> (if t469=true then (laws_FnExactAbsorbText.j0 k a1 t452 bt461.2.2.2.2 (bt461.2.2.2.2 !=t452) l0_0 a0_1 a0_2 a0_3 t446 t449 t450 t451 bt454.1 bt454.2.1 bt454.2.2.1 bt454.2.2.2 bt461.1 bt461.2.1 bt461.2.2.1 bt461.2.2.2.1) else (none)))))=some r:=H
      have A11:=Aside0.mk A110
      clear A110
      replace H:=Option.bind_eq_some_iff.mp H
      obtain ⟨⟨t454,t457,t458,t459⟩,A120,H⟩:=H
      replace H:((impl_AbsorbText.f t454 t457 t458 t459 a1).bind fun bt461=> ((laws_eqSource.f k bt461.1 bt461.2.1 bt461.2.2.1 bt461.2.2.2.1 t446 t449 t450 t451).bind fun t469=> (if t469=true then (laws_FnExactAbsorbText.j0 k a1 t452 bt461.2.2.2.2 (bt461.2.2.2.2 !=t452) l0_0 a0_1 a0_2 a0_3 t446 t449 t450 t451 t454 t457 t458 t459 bt461.1 bt461.2.1 bt461.2.2.1 bt461.2.2.2.1) else (none))))=some r:=H
      have A12:=Aside0.mk A120
      clear A120
      replace H:=Option.bind_eq_some_iff.mp H
      obtain ⟨⟨t461,t464,t465,t466,t467⟩,A130,H⟩:=H
      replace H:((laws_eqSource.f k t461 t464 t465 t466 t446 t449 t450 t451).bind fun t469=> (if t469=true then (laws_FnExactAbsorbText.j0 k a1 t452 t467 (t467 !=t452) l0_0 a0_1 a0_2 a0_3 t446 t449 t450 t451 t454 t457 t458 t459 t461 t464 t465 t466) else (none)))=some r:=H
      have A13:=Aside0.mk A130
      clear A130
      have HC14:=Aside0.mk H
      clear H
      go_enter Try.func16,Try.ntmps16
      go_upto_region 10 with (first|((with_reducible refine gate_dst (N:=2) rfl ?_);refine box_event ?hg (N:=2) ?hd (cs:= #[.slice A0_0 l0_0.length c0_0,.int .i64 a0_1,.string a0_2,.int .i64 a0_3]) (t:=61) ?hr ?_;(case hd=> rfl);(case hg=> rfl);(case hr=> first|(go_simp;done)|(go_simp;rfl));intro gb438 hg w15 hbox hb;have n0_:=Aside0.mk (below_step (by repeat (first|(with_reducible first|exact HB.out|apply below_alloc|apply pw_below_drewN|apply below_drew1)|exact HB.out)) hb);have n1_:=Aside0.mk (hbox);have n2_:=Aside0.mk ((by rw [hg];exact (below_size (by repeat (first|(with_reducible first|exact HB.out|apply below_alloc|apply pw_below_drewN|apply below_drew1)|exact HB.out))):w.heap.size ≤ gb438));have n3_:=Aside0.mk ((by rw [hg];exact (below_size (by repeat (first|(with_reducible first|exact HB.out|apply below_alloc|apply pw_below_drewN|apply below_drew1)|exact HB.out))):w.heap.size ≤ gb438));clear HB;have HB:=n0_;have BK438:=n1_;have GW438:=n2_;have GE438:=n3_;clear n0_ n1_ n2_ n3_;clear hb hbox hg;have hcz16_0:w15.cell? ⟨gb438,0,none⟩=some (.slice A0_0 l0_0.length c0_0):=(blk_cell BK438.out 0).trans rfl;have hcz16_1:w15.cell? ⟨gb438,1,none⟩=some (.int .i64 a0_1):=(blk_cell BK438.out 1).trans rfl;have hcz16_2:w15.cell? ⟨gb438,2,none⟩=some (.string a0_2):=(blk_cell BK438.out 2).trans rfl;have hcz16_3:w15.cell? ⟨gb438,3,none⟩=some (.int .i64 a0_3):=(blk_cell BK438.out 3).trans rfl;have hfz16_0:=blk_frozen BK438.out 0;have hfz16_1:=blk_frozen BK438.out 1;have hfz16_2:=blk_frozen BK438.out 2;have hfz16_3:=blk_frozen BK438.out 3)|((with_reducible refine gate_callee (f:=53) rfl ?_);refine goesL_ (some 21) rfl rfl Try.func53 (by kernel_rfl) rfl #[.agg #[.slice A0_0 l0_0.length c0_0,.int .i64 a0_1,.string a0_2,.int .i64 a0_3],.int .i64 1048576] rfl (by (try simp only [List.map_toArray,List.map_cons,List.map_nil]);first|done|rfl|(simp only [List.length_drop,List.length_take];rfl)) ?_;(with_reducible refine (laws_szSource.calls _ _ l0_0 a0_1 a0_2 a0_3 1048576 t439 _ ?side1 ?side2 A5.out).mono ?_);(case side1=> repeat (first|exact (Kd.C_below HR0_0.out HB.out)|(with_reducible refine Kd.C_alloc ?_ _)|(with_reducible refine Kd.C_drewN ?_ _)|(with_reducible refine Kd.C_drew ?_)));(case side2=> exact HC0_0.out);rintro e w17 ⟨rfl,hb⟩;refine ⟨_,rfl,?_⟩;have n0_:=Aside0.mk (blk_below (g:=gb438) (o:= .cells #[.slice A0_0 l0_0.length c0_0,.int .i64 a0_1,.string a0_2,.int .i64 a0_3] 61 (0,0)) (by (with_reducible repeat (first|apply bN|apply bd|apply bA));exact BK438.out) hb);have n1_:=Aside0.mk (below_step (by repeat (first|(with_reducible first|exact HB.out|apply below_alloc|apply pw_below_drewN|apply below_drew1|refine below_set ?_ GE438.out)|exact HB.out)) hb);clear BK438;clear HB;have BK438:=n0_;have HB:=n1_;clear n0_ n1_;(try clear hb);(try clear hb2);(try clear hk);(try clear hi);have hcz18_0:w17.cell? ⟨gb438,0,none⟩=some (.slice A0_0 l0_0.length c0_0):=(blk_cell BK438.out 0).trans rfl;have hcz18_1:w17.cell? ⟨gb438,1,none⟩=some (.int .i64 a0_1):=(blk_cell BK438.out 1).trans rfl;have hcz18_2:w17.cell? ⟨gb438,2,none⟩=some (.string a0_2):=(blk_cell BK438.out 2).trans rfl;have hcz18_3:w17.cell? ⟨gb438,3,none⟩=some (.int .i64 a0_3):=(blk_cell BK438.out 3).trans rfl;have hfz18_0:=blk_frozen BK438.out 0;have hfz18_1:=blk_frozen BK438.out 1;have hfz18_2:=blk_frozen BK438.out 2;have hfz18_3:=blk_frozen BK438.out 3)|((with_reducible refine gate_callee (f:=55) rfl ?_);refine goesL_ (some 26) rfl rfl Try.func55 (by kernel_rfl) rfl #[.agg #[.slice A0_0 l0_0.length c0_0,.int .i64 a0_1,.string a0_2,.int .i64 a0_3]] rfl (by (try simp only [List.map_toArray,List.map_cons,List.map_nil]);first|done|rfl|(simp only [List.length_drop,List.length_take];rfl)) ?_;(with_reducible refine (laws_toSource.calls k _ _ l0_0 a0_1 a0_2 a0_3 t440 t443 t444 t445 _ ?side1 ?side2 A10.out).mono ?_);(case side1=> repeat (first|exact (Kd.C_below HR0_0.out HB.out)|(with_reducible refine Kd.C_alloc ?_ _)|(with_reducible refine Kd.C_drewN ?_ _)|(with_reducible refine Kd.C_drew ?_)));(case side2=> exact HC0_0.out);rintro e w19 ⟨v441,rfl,ho0,hb⟩;refine ⟨_,rfl,?_⟩;have n0_:=Aside0.mk (Kd.R_lower ho0 (below_size (by repeat (first|(with_reducible first|exact HB.out|apply below_alloc|apply pw_below_drewN|apply below_drew1|refine below_set ?_ GE438.out)|exact HB.out))));have n1_:=Aside0.mk (blk_below (g:=gb438) (o:= .cells #[.slice A0_0 l0_0.length c0_0,.int .i64 a0_1,.string a0_2,.int .i64 a0_3] 61 (0,0)) (by (with_reducible repeat (first|apply bN|apply bd|apply bA));exact BK438.out) hb);have n2_:=Aside0.mk (below_step (by repeat (first|(with_reducible first|exact HB.out|apply below_alloc|apply pw_below_drewN|apply below_drew1|refine below_set ?_ GE438.out)|exact HB.out)) hb);clear BK438;clear HB;have HO442:=n0_;have BK438:=n1_;have HB:=n2_;clear n0_ n1_ n2_;(try clear hb);(try clear hb2);(try clear hk);(try clear hi);(try clear ho0);obtain ⟨Ao20,co20,eo20⟩:=Kd.R_slice HO442.out;subst eo20)|((with_reducible refine gate_callee (f:=65) rfl ?_);refine goesL_ (some 28) rfl rfl Try.func65 (by kernel_rfl) rfl #[.agg #[.slice Ao20 t440.length co20,.int .i64 t443,.string t444,.int .i64 t445],.string a1] rfl (by (try simp only [List.map_toArray,List.map_cons,List.map_nil]);first|done|rfl|(simp only [List.length_drop,List.length_take];rfl)) ?_;(with_reducible refine (spec_AbsorbText.calls k (fun k_=> some k_=(.slice Ao20 t440.length co20:Value).ownBlock) (.slice Ao20 t440.length co20) t440 t443 t444 t445 a1 t446 t449 t450 t451 t452 w _ ?side1 ?side2 A11.out).mono ?_);(case side1=> repeat (first|(with_reducible first|exact HB.out|apply below_alloc|apply pw_below_drewN|apply below_drew1|refine below_set ?_ GE438.out)|exact HB.out));(case side2=> exact Kd.R_tight rfl HO442.out);rintro e w21 ⟨v447,rfl,ho0,hb,hkp⟩;refine ⟨_,rfl,?_⟩;have n0_:=Aside0.mk (blk_kept (by (with_reducible repeat (first|apply bN|apply bd|apply bA));exact BK438.out) hkp (fun hs_=> (fun e_=> (Kd.R_ne HO442.out BK438.out (by decide)) e_) hs_));have n1_:=Aside0.mk (Kd.R_mono (ok':=fun k_=> True) ho0 (fun k_ hk_=> trivial));have n2_:=Aside0.mk (hb);clear BK438;clear HB;clear HO442;have BK438:=n0_;have HO448:=n1_;have HB:=n2_;clear n0_ n1_ n2_;(try clear hb);(try clear hkp);(try clear ho0))|((with_reducible refine gate_dst (N:=6) rfl ?_);refine box_event ?hg (N:=6) ?hd (cs:= #[.slice none 0 0,.int .i64 0,.string (⟨#[]⟩:ByteArray),.int .i64 0]) (t:=36) ?hr ?_;(case hd=> rfl);(case hg=> rfl);(case hr=> first|(go_simp;done)|(go_simp;rfl));intro gb453 hg w22 hbox hb;have n0_:=Aside0.mk (Kd.R_below (by (with_reducible repeat (first|apply Kd.R_alloc|apply Kd.R_drewN|apply Kd.R_drew));exact HO448.out) hb);have n1_:=Aside0.mk (blk_below (g:=gb438) (o:= .cells #[.slice A0_0 l0_0.length c0_0,.int .i64 a0_1,.string a0_2,.int .i64 a0_3] 61 (0,0)) (by (with_reducible repeat (first|apply bN|apply bd|apply bA));exact BK438.out) hb);have n2_:=Aside0.mk (below_step (by repeat (first|(with_reducible first|exact HB.out|apply below_alloc|apply pw_below_drewN|apply below_drew1|refine below_set ?_ GE438.out)|exact HB.out)) hb);have n3_:=Aside0.mk (hbox);have n4_:=Aside0.mk ((by rw [hg];exact (below_size (by repeat (first|(with_reducible first|exact HB.out|apply below_alloc|apply pw_below_drewN|apply below_drew1|refine below_set ?_ GE438.out)|exact HB.out))):w.heap.size ≤ gb453));have n5_:=Aside0.mk ((by rw [hg];exact (below_size (by repeat (first|(with_reducible first|exact HB.out|apply below_alloc|apply pw_below_drewN|apply below_drew1|refine below_set ?_ GE438.out)|exact HB.out))):w.heap.size ≤ gb453));have n6_:=Aside0.mk ((by rw [hg];exact Nat.ne_of_lt (blk_lt (g:=gb438) (o:= .cells #[.slice A0_0 l0_0.length c0_0,.int .i64 a0_1,.string a0_2,.int .i64 a0_3] 61 (0,0)) (by (with_reducible repeat (first|apply bN|apply bd|apply bA));exact BK438.out)):gb438 ≠ gb453));have n7_:=Aside0.mk ((by rw [hg];exact Nat.ne_of_gt (blk_lt (g:=gb438) (o:= .cells #[.slice A0_0 l0_0.length c0_0,.int .i64 a0_1,.string a0_2,.int .i64 a0_3] 61 (0,0)) (by (with_reducible repeat (first|apply bN|apply bd|apply bA));exact BK438.out)):gb453 ≠ gb438));clear HO448;clear BK438;clear HB;have HO448:=n0_;have BK438:=n1_;have HB:=n2_;have BK453:=n3_;have GW453:=n4_;have GE453:=n5_;have NB438_453:=n6_;have NB453_438:=n7_;clear n0_ n1_ n2_ n3_ n4_ n5_ n6_ n7_;clear hb hbox hg;obtain ⟨Ao23,co23,eo23⟩:=Kd.R_slice HO448.out;subst eo23;have hnb24:=NB453_438.out;have hnc24:=NB438_453.out;have hcz25_0:w22.cell? ⟨gb453,0,none⟩=some (.slice none 0 0):=(blk_cell BK453.out 0).trans rfl;have hcz25_1:w22.cell? ⟨gb453,1,none⟩=some (.int .i64 0):=(blk_cell BK453.out 1).trans rfl;have hcz25_2:w22.cell? ⟨gb453,2,none⟩=some (.string (⟨#[]⟩:ByteArray)):=(blk_cell BK453.out 2).trans rfl;have hcz25_3:w22.cell? ⟨gb453,3,none⟩=some (.int .i64 0):=(blk_cell BK453.out 3).trans rfl;have hfz25_0:=blk_frozen BK453.out 0;have hfz25_1:=blk_frozen BK453.out 1;have hfz25_2:=blk_frozen BK453.out 2;have hfz25_3:=blk_frozen BK453.out 3;have hcz26_0:w22.cell? ⟨gb438,0,none⟩=some (.slice A0_0 l0_0.length c0_0):=(blk_cell BK438.out 0).trans rfl;have hcz26_1:w22.cell? ⟨gb438,1,none⟩=some (.int .i64 a0_1):=(blk_cell BK438.out 1).trans rfl;have hcz26_2:w22.cell? ⟨gb438,2,none⟩=some (.string a0_2):=(blk_cell BK438.out 2).trans rfl;have hcz26_3:w22.cell? ⟨gb438,3,none⟩=some (.int .i64 a0_3):=(blk_cell BK438.out 3).trans rfl;have hfz26_0:=blk_frozen BK438.out 0;have hfz26_1:=blk_frozen BK438.out 1;have hfz26_2:=blk_frozen BK438.out 2;have hfz26_3:=blk_frozen BK438.out 3)|((with_reducible refine gate_callee (f:=55) rfl ?_);refine goesL_ (some 32) rfl rfl Try.func55 (by kernel_rfl) rfl #[.agg #[.slice A0_0 l0_0.length c0_0,.int .i64 a0_1,.string a0_2,.int .i64 a0_3]] rfl (by (try simp only [List.map_toArray,List.map_cons,List.map_nil]);first|done|rfl|(simp only [List.length_drop,List.length_take];rfl)) ?_;(with_reducible refine (laws_toSource.calls k _ _ l0_0 a0_1 a0_2 a0_3 t454 t457 t458 t459 _ ?side1 ?side2 A12.out).mono ?_);(case side1=> exact Kd.C_below HR0_0.out (by repeat (first|(with_reducible first|exact HB.out|apply below_alloc|apply pw_below_drewN|apply below_drew1|refine below_set ?_ GE438.out|refine below_set ?_ GE453.out)|exact HB.out)));(case side2=> exact HC0_0.out);rintro e w27 ⟨v455,rfl,ho0,hb⟩;refine ⟨_,rfl,?_⟩;have n0_:=Aside0.mk (Kd.R_elder' (by (with_reducible repeat (first|apply Kd.R_alloc|apply Kd.R_drewN|apply Kd.R_drew));exact (Kd.R_mono (Kd.R_far (p:=⟨gb453,3,none⟩) (Kd.R_far (p:=⟨gb453,2,none⟩) (Kd.R_far (p:=⟨gb453,1,none⟩) (Kd.R_far (p:=⟨gb453,0,none⟩) (Kd.R_types HO448.out BK453.out (by decide)) (fun _ hk=> hk.2) (.slice Ao23 t446.length co23)) (fun _ hk=> hk.2) (.int .i64 t449)) (fun _ hk=> hk.2) (.string t450)) (fun _ hk=> hk.2) (.int .i64 t451)) (fun _ h_=> h_.1))) (Kd.R_base ho0) hb);have n1_:=Aside0.mk (Kd.R_lower (Kd.R_new' ho0 (Kd.R_lt (by (with_reducible repeat (first|apply Kd.R_alloc|apply Kd.R_drewN|apply Kd.R_drew));exact (Kd.R_mono (Kd.R_far (p:=⟨gb453,3,none⟩) (Kd.R_far (p:=⟨gb453,2,none⟩) (Kd.R_far (p:=⟨gb453,1,none⟩) (Kd.R_far (p:=⟨gb453,0,none⟩) (Kd.R_types HO448.out BK453.out (by decide)) (fun _ hk=> hk.2) (.slice Ao23 t446.length co23)) (fun _ hk=> hk.2) (.int .i64 t449)) (fun _ hk=> hk.2) (.string t450)) (fun _ hk=> hk.2) (.int .i64 t451)) (fun _ h_=> h_.1))))) (below_size (by repeat (first|(with_reducible first|exact HB.out|apply below_alloc|apply pw_below_drewN|apply below_drew1|refine below_set ?_ GE438.out|refine below_set ?_ GE453.out)|exact HB.out))));have n2_:=Aside0.mk (blk_below (g:=gb438) (o:= .cells #[.slice A0_0 l0_0.length c0_0,.int .i64 a0_1,.string a0_2,.int .i64 a0_3] 61 (0,0)) (by (with_reducible repeat (first|apply bN|apply bd|apply bA));refine blk_far ?_ NB438_453.out _;(with_reducible repeat (first|apply bN|apply bd|apply bA));refine blk_far ?_ NB438_453.out _;(with_reducible repeat (first|apply bN|apply bd|apply bA));refine blk_far ?_ NB438_453.out _;(with_reducible repeat (first|apply bN|apply bd|apply bA));refine blk_far ?_ NB438_453.out _;(with_reducible repeat (first|apply bN|apply bd|apply bA));exact BK438.out) hb);have n3_:=Aside0.mk (blk_below (g:=gb453) (o:= .cells #[.slice Ao23 t446.length co23,.int .i64 t449,.string t450,.int .i64 t451] 36 (0,0)) (by (with_reducible repeat (first|apply bN|apply bd|apply bA));refine blk_put (cs:= #[.slice Ao23 t446.length co23,.int .i64 t449,.string t450,.int .i64 0]) ?_ 3 _ rfl;(with_reducible repeat (first|apply bN|apply bd|apply bA));refine blk_put (cs:= #[.slice Ao23 t446.length co23,.int .i64 t449,.string (⟨#[]⟩:ByteArray),.int .i64 0]) ?_ 2 _ rfl;(with_reducible repeat (first|apply bN|apply bd|apply bA));refine blk_put (cs:= #[.slice Ao23 t446.length co23,.int .i64 0,.string (⟨#[]⟩:ByteArray),.int .i64 0]) ?_ 1 _ rfl;(with_reducible repeat (first|apply bN|apply bd|apply bA));refine blk_put (cs:= #[.slice none 0 0,.int .i64 0,.string (⟨#[]⟩:ByteArray),.int .i64 0]) ?_ 0 _ rfl;(with_reducible repeat (first|apply bN|apply bd|apply bA));exact BK453.out) hb);have n4_:=Aside0.mk (below_step (by repeat (first|(with_reducible first|exact HB.out|apply below_alloc|apply pw_below_drewN|apply below_drew1|refine below_set ?_ GE438.out|refine below_set ?_ GE453.out)|exact HB.out)) hb);clear HO448;clear BK438;clear BK453;clear HB;have HO448:=n0_;have HO456:=n1_;have BK438:=n2_;have BK453:=n3_;have HB:=n4_;clear n0_ n1_ n2_ n3_ n4_;(try clear hb);(try clear hb2);(try clear hk);(try clear hi);(try clear ho0))|((with_reducible refine gate_dst (N:=8) rfl ?_);refine box_event ?hg (N:=8) ?hd (cs:= #[.slice none 0 0,.int .i64 0,.string (⟨#[]⟩:ByteArray),.int .i64 0]) (t:=36) ?hr ?_;(case hd=> rfl);(case hg=> rfl);(case hr=> first|(go_simp;done)|(go_simp;rfl));intro gb460 hg w28 hbox hb;have n0_:=Aside0.mk (Kd.R_below (by (with_reducible repeat (first|apply Kd.R_alloc|apply Kd.R_drewN|apply Kd.R_drew));exact HO448.out) hb);have n1_:=Aside0.mk (Kd.R_below (by (with_reducible repeat (first|apply Kd.R_alloc|apply Kd.R_drewN|apply Kd.R_drew));exact HO456.out) hb);have n2_:=Aside0.mk (blk_below (g:=gb438) (o:= .cells #[.slice A0_0 l0_0.length c0_0,.int .i64 a0_1,.string a0_2,.int .i64 a0_3] 61 (0,0)) (by (with_reducible repeat (first|apply bN|apply bd|apply bA));exact BK438.out) hb);have n3_:=Aside0.mk (blk_below (g:=gb453) (o:= .cells #[.slice Ao23 t446.length co23,.int .i64 t449,.string t450,.int .i64 t451] 36 (0,0)) (by (with_reducible repeat (first|apply bN|apply bd|apply bA));exact BK453.out) hb);have n4_:=Aside0.mk (below_step (by repeat (first|(with_reducible first|exact HB.out|apply below_alloc|apply pw_below_drewN|apply below_drew1|refine below_set ?_ GE438.out|refine below_set ?_ GE453.out)|exact HB.out)) hb);have n5_:=Aside0.mk (hbox);have n6_:=Aside0.mk ((by rw [hg];exact (below_size (by repeat (first|(with_reducible first|exact HB.out|apply below_alloc|apply pw_below_drewN|apply below_drew1|refine below_set ?_ GE438.out|refine below_set ?_ GE453.out)|exact HB.out))):w.heap.size ≤ gb460));have n7_:=Aside0.mk ((by rw [hg];exact (below_size (by repeat (first|(with_reducible first|exact HB.out|apply below_alloc|apply pw_below_drewN|apply below_drew1|refine below_set ?_ GE438.out|refine below_set ?_ GE453.out)|exact HB.out))):w.heap.size ≤ gb460));have n8_:=Aside0.mk ((by rw [hg];exact Nat.ne_of_lt (blk_lt (g:=gb438) (o:= .cells #[.slice A0_0 l0_0.length c0_0,.int .i64 a0_1,.string a0_2,.int .i64 a0_3] 61 (0,0)) (by (with_reducible repeat (first|apply bN|apply bd|apply bA));exact BK438.out)):gb438 ≠ gb460));have n9_:=Aside0.mk ((by rw [hg];exact Nat.ne_of_gt (blk_lt (g:=gb438) (o:= .cells #[.slice A0_0 l0_0.length c0_0,.int .i64 a0_1,.string a0_2,.int .i64 a0_3] 61 (0,0)) (by (with_reducible repeat (first|apply bN|apply bd|apply bA));exact BK438.out)):gb460 ≠ gb438));have n10_:=Aside0.mk ((by rw [hg];exact Nat.ne_of_lt (blk_lt (g:=gb453) (o:= .cells #[.slice Ao23 t446.length co23,.int .i64 t449,.string t450,.int .i64 t451] 36 (0,0)) (by (with_reducible repeat (first|apply bN|apply bd|apply bA));exact BK453.out)):gb453 ≠ gb460));have n11_:=Aside0.mk ((by rw [hg];exact Nat.ne_of_gt (blk_lt (g:=gb453) (o:= .cells #[.slice Ao23 t446.length co23,.int .i64 t449,.string t450,.int .i64 t451] 36 (0,0)) (by (with_reducible repeat (first|apply bN|apply bd|apply bA));exact BK453.out)):gb460 ≠ gb453));clear HO448;clear HO456;clear BK438;clear BK453;clear HB;have HO448:=n0_;have HO456:=n1_;have BK438:=n2_;have BK453:=n3_;have HB:=n4_;have BK460:=n5_;have GW460:=n6_;have GE460:=n7_;have NB438_460:=n8_;have NB460_438:=n9_;have NB453_460:=n10_;have NB460_453:=n11_;clear n0_ n1_ n2_ n3_ n4_ n5_ n6_ n7_ n8_ n9_ n10_ n11_;clear hb hbox hg;obtain ⟨Ao29,co29,eo29⟩:=Kd.R_slice HO456.out;subst eo29;have hnb30:=NB460_438.out;have hnc30:=NB438_460.out;have hnb31:=NB460_453.out;have hnc31:=NB453_460.out;have hcz32_0:w28.cell? ⟨gb460,0,none⟩=some (.slice none 0 0):=(blk_cell BK460.out 0).trans rfl;have hcz32_1:w28.cell? ⟨gb460,1,none⟩=some (.int .i64 0):=(blk_cell BK460.out 1).trans rfl;have hcz32_2:w28.cell? ⟨gb460,2,none⟩=some (.string (⟨#[]⟩:ByteArray)):=(blk_cell BK460.out 2).trans rfl;have hcz32_3:w28.cell? ⟨gb460,3,none⟩=some (.int .i64 0):=(blk_cell BK460.out 3).trans rfl;have hfz32_0:=blk_frozen BK460.out 0;have hfz32_1:=blk_frozen BK460.out 1;have hfz32_2:=blk_frozen BK460.out 2;have hfz32_3:=blk_frozen BK460.out 3)|((with_reducible refine gate_callee (f:=66) rfl ?_);refine goesL_ (some 36) rfl rfl Try.func66 (by kernel_rfl) rfl #[.agg #[.slice Ao29 t454.length co29,.int .i64 t457,.string t458,.int .i64 t459],.string a1] rfl (by (try simp only [List.map_toArray,List.map_cons,List.map_nil]);first|done|rfl|(simp only [List.length_drop,List.length_take];rfl)) ?_;(with_reducible refine (impl_AbsorbText.calls _ _ t454 t457 t458 t459 a1 t461 t464 t465 t466 t467 _ ?side1 ?side2 A13.out).mono ?_);(case side1=> refine (Kd.R_reads' (e:=79) (base:=w.heap.size) (ok:=fun k_=> (True ∧ some k_ ≠ (.slice Ao23 t446.length co23:Value).ownBlock)) (n:=t454.length) (c:=co29) ?_).2.2;exact (by (with_reducible repeat (first|apply Kd.R_alloc|apply Kd.R_drewN|apply Kd.R_drew));exact (Kd.R_mono (Kd.R_far (p:=⟨gb460,3,none⟩) (Kd.R_far (p:=⟨gb460,2,none⟩) (Kd.R_far (p:=⟨gb460,1,none⟩) (Kd.R_far (p:=⟨gb460,0,none⟩) (Kd.R_types HO456.out BK460.out (by decide)) (fun _ hk=> hk.2) (.slice Ao29 t454.length co29)) (fun _ hk=> hk.2) (.int .i64 t457)) (fun _ hk=> hk.2) (.string t458)) (fun _ hk=> hk.2) (.int .i64 t459)) (fun _ h_=> h_.1))));(case side2=> exact (Kd.R_reads' HO456.out).2.1);rintro e w33 ⟨v462,rfl,ho0,hb⟩;refine ⟨_,rfl,?_⟩;have n0_:=Aside0.mk (Kd.R_elder' (by (with_reducible repeat (first|apply Kd.R_alloc|apply Kd.R_drewN|apply Kd.R_drew));exact (Kd.R_mono (Kd.R_far (p:=⟨gb460,3,none⟩) (Kd.R_far (p:=⟨gb460,2,none⟩) (Kd.R_far (p:=⟨gb460,1,none⟩) (Kd.R_far (p:=⟨gb460,0,none⟩) (Kd.R_types HO448.out BK460.out (by decide)) (fun _ hk=> hk.2) (.slice Ao29 t454.length co29)) (fun _ hk=> hk.2) (.int .i64 t457)) (fun _ hk=> hk.2) (.string t458)) (fun _ hk=> hk.2) (.int .i64 t459)) (fun _ h_=> h_.1))) (Kd.R_base ho0) hb);have n1_:=Aside0.mk (Kd.R_elder' (by (with_reducible repeat (first|apply Kd.R_alloc|apply Kd.R_drewN|apply Kd.R_drew));exact (Kd.R_mono (Kd.R_far (p:=⟨gb460,3,none⟩) (Kd.R_far (p:=⟨gb460,2,none⟩) (Kd.R_far (p:=⟨gb460,1,none⟩) (Kd.R_far (p:=⟨gb460,0,none⟩) (Kd.R_types HO456.out BK460.out (by decide)) (fun _ hk=> hk.2) (.slice Ao29 t454.length co29)) (fun _ hk=> hk.2) (.int .i64 t457)) (fun _ hk=> hk.2) (.string t458)) (fun _ hk=> hk.2) (.int .i64 t459)) (fun _ h_=> h_.1))) (Kd.R_base ho0) hb);have n2_:=Aside0.mk (Kd.R_lower (Kd.R_new' (Kd.R_new' ho0 (Kd.R_lt (by (with_reducible repeat (first|apply Kd.R_alloc|apply Kd.R_drewN|apply Kd.R_drew));exact (Kd.R_mono (Kd.R_far (p:=⟨gb460,3,none⟩) (Kd.R_far (p:=⟨gb460,2,none⟩) (Kd.R_far (p:=⟨gb460,1,none⟩) (Kd.R_far (p:=⟨gb460,0,none⟩) (Kd.R_types HO448.out BK460.out (by decide)) (fun _ hk=> hk.2) (.slice Ao29 t454.length co29)) (fun _ hk=> hk.2) (.int .i64 t457)) (fun _ hk=> hk.2) (.string t458)) (fun _ hk=> hk.2) (.int .i64 t459)) (fun _ h_=> h_.1))))) (Kd.R_lt (by (with_reducible repeat (first|apply Kd.R_alloc|apply Kd.R_drewN|apply Kd.R_drew));exact (Kd.R_mono (Kd.R_far (p:=⟨gb460,3,none⟩) (Kd.R_far (p:=⟨gb460,2,none⟩) (Kd.R_far (p:=⟨gb460,1,none⟩) (Kd.R_far (p:=⟨gb460,0,none⟩) (Kd.R_types HO456.out BK460.out (by decide)) (fun _ hk=> hk.2) (.slice Ao29 t454.length co29)) (fun _ hk=> hk.2) (.int .i64 t457)) (fun _ hk=> hk.2) (.string t458)) (fun _ hk=> hk.2) (.int .i64 t459)) (fun _ h_=> h_.1))))) (below_size (by repeat (first|(with_reducible first|exact HB.out|apply below_alloc|apply pw_below_drewN|apply below_drew1|refine below_set ?_ GE438.out|refine below_set ?_ GE453.out|refine below_set ?_ GE460.out)|exact HB.out))));have n3_:=Aside0.mk (blk_below (g:=gb438) (o:= .cells #[.slice A0_0 l0_0.length c0_0,.int .i64 a0_1,.string a0_2,.int .i64 a0_3] 61 (0,0)) (by (with_reducible repeat (first|apply bN|apply bd|apply bA));refine blk_far ?_ NB438_460.out _;(with_reducible repeat (first|apply bN|apply bd|apply bA));refine blk_far ?_ NB438_460.out _;(with_reducible repeat (first|apply bN|apply bd|apply bA));refine blk_far ?_ NB438_460.out _;(with_reducible repeat (first|apply bN|apply bd|apply bA));refine blk_far ?_ NB438_460.out _;(with_reducible repeat (first|apply bN|apply bd|apply bA));exact BK438.out) hb);have n4_:=Aside0.mk (blk_below (g:=gb453) (o:= .cells #[.slice Ao23 t446.length co23,.int .i64 t449,.string t450,.int .i64 t451] 36 (0,0)) (by (with_reducible repeat (first|apply bN|apply bd|apply bA));refine blk_far ?_ NB453_460.out _;(with_reducible repeat (first|apply bN|apply bd|apply bA));refine blk_far ?_ NB453_460.out _;(with_reducible repeat (first|apply bN|apply bd|apply bA));refine blk_far ?_ NB453_460.out _;(with_reducible repeat (first|apply bN|apply bd|apply bA));refine blk_far ?_ NB453_460.out _;(with_reducible repeat (first|apply bN|apply bd|apply bA));exact BK453.out) hb);have n5_:=Aside0.mk (blk_below (g:=gb460) (o:= .cells #[.slice Ao29 t454.length co29,.int .i64 t457,.string t458,.int .i64 t459] 36 (0,0)) (by (with_reducible repeat (first|apply bN|apply bd|apply bA));refine blk_put (cs:= #[.slice Ao29 t454.length co29,.int .i64 t457,.string t458,.int .i64 0]) ?_ 3 _ rfl;(with_reducible repeat (first|apply bN|apply bd|apply bA));refine blk_put (cs:= #[.slice Ao29 t454.length co29,.int .i64 t457,.string (⟨#[]⟩:ByteArray),.int .i64 0]) ?_ 2 _ rfl;(with_reducible repeat (first|apply bN|apply bd|apply bA));refine blk_put (cs:= #[.slice Ao29 t454.length co29,.int .i64 0,.string (⟨#[]⟩:ByteArray),.int .i64 0]) ?_ 1 _ rfl;(with_reducible repeat (first|apply bN|apply bd|apply bA));refine blk_put (cs:= #[.slice none 0 0,.int .i64 0,.string (⟨#[]⟩:ByteArray),.int .i64 0]) ?_ 0 _ rfl;(with_reducible repeat (first|apply bN|apply bd|apply bA));exact BK460.out) hb);have n6_:=Aside0.mk (below_step (by repeat (first|(with_reducible first|exact HB.out|apply below_alloc|apply pw_below_drewN|apply below_drew1|refine below_set ?_ GE438.out|refine below_set ?_ GE453.out|refine below_set ?_ GE460.out)|exact HB.out)) hb);clear HO448;clear HO456;clear BK438;clear BK453;clear BK460;clear HB;have HO448:=n0_;have HO456:=n1_;have HO463:=n2_;have BK438:=n3_;have BK453:=n4_;have BK460:=n5_;have HB:=n6_;clear n0_ n1_ n2_ n3_ n4_ n5_ n6_;(try clear hb);(try clear hb2);(try clear hk);(try clear hi);(try clear ho0))|((with_reducible refine gate_dst (N:=9) rfl ?_);refine box_event ?hg (N:=9) ?hd (cs:= #[.slice none 0 0,.int .i64 0,.string (⟨#[]⟩:ByteArray),.int .i64 0]) (t:=36) ?hr ?_;(case hd=> rfl);(case hg=> rfl);(case hr=> first|(go_simp;done)|(go_simp;rfl));intro gb468 hg w34 hbox hb;have n0_:=Aside0.mk (Kd.R_below (by (with_reducible repeat (first|apply Kd.R_alloc|apply Kd.R_drewN|apply Kd.R_drew));exact HO448.out) hb);have n1_:=Aside0.mk (Kd.R_below (by (with_reducible repeat (first|apply Kd.R_alloc|apply Kd.R_drewN|apply Kd.R_drew));exact HO456.out) hb);have n2_:=Aside0.mk (Kd.R_below (by (with_reducible repeat (first|apply Kd.R_alloc|apply Kd.R_drewN|apply Kd.R_drew));exact HO463.out) hb);have n3_:=Aside0.mk (blk_below (g:=gb438) (o:= .cells #[.slice A0_0 l0_0.length c0_0,.int .i64 a0_1,.string a0_2,.int .i64 a0_3] 61 (0,0)) (by (with_reducible repeat (first|apply bN|apply bd|apply bA));exact BK438.out) hb);have n4_:=Aside0.mk (blk_below (g:=gb453) (o:= .cells #[.slice Ao23 t446.length co23,.int .i64 t449,.string t450,.int .i64 t451] 36 (0,0)) (by (with_reducible repeat (first|apply bN|apply bd|apply bA));exact BK453.out) hb);have n5_:=Aside0.mk (blk_below (g:=gb460) (o:= .cells #[.slice Ao29 t454.length co29,.int .i64 t457,.string t458,.int .i64 t459] 36 (0,0)) (by (with_reducible repeat (first|apply bN|apply bd|apply bA));exact BK460.out) hb);have n6_:=Aside0.mk (below_step (by repeat (first|(with_reducible first|exact HB.out|apply below_alloc|apply pw_below_drewN|apply below_drew1|refine below_set ?_ GE438.out|refine below_set ?_ GE453.out|refine below_set ?_ GE460.out)|exact HB.out)) hb);have n7_:=Aside0.mk (hbox);have n8_:=Aside0.mk ((by rw [hg];exact (below_size (by repeat (first|(with_reducible first|exact HB.out|apply below_alloc|apply pw_below_drewN|apply below_drew1|refine below_set ?_ GE438.out|refine below_set ?_ GE453.out|refine below_set ?_ GE460.out)|exact HB.out))):w.heap.size ≤ gb468));have n9_:=Aside0.mk ((by rw [hg];exact (below_size (by repeat (first|(with_reducible first|exact HB.out|apply below_alloc|apply pw_below_drewN|apply below_drew1|refine below_set ?_ GE438.out|refine below_set ?_ GE453.out|refine below_set ?_ GE460.out)|exact HB.out))):w.heap.size ≤ gb468));have n10_:=Aside0.mk ((by rw [hg];exact Nat.ne_of_lt (blk_lt (g:=gb438) (o:= .cells #[.slice A0_0 l0_0.length c0_0,.int .i64 a0_1,.string a0_2,.int .i64 a0_3] 61 (0,0)) (by (with_reducible repeat (first|apply bN|apply bd|apply bA));exact BK438.out)):gb438 ≠ gb468));have n11_:=Aside0.mk ((by rw [hg];exact Nat.ne_of_gt (blk_lt (g:=gb438) (o:= .cells #[.slice A0_0 l0_0.length c0_0,.int .i64 a0_1,.string a0_2,.int .i64 a0_3] 61 (0,0)) (by (with_reducible repeat (first|apply bN|apply bd|apply bA));exact BK438.out)):gb468 ≠ gb438));have n12_:=Aside0.mk ((by rw [hg];exact Nat.ne_of_lt (blk_lt (g:=gb453) (o:= .cells #[.slice Ao23 t446.length co23,.int .i64 t449,.string t450,.int .i64 t451] 36 (0,0)) (by (with_reducible repeat (first|apply bN|apply bd|apply bA));exact BK453.out)):gb453 ≠ gb468));have n13_:=Aside0.mk ((by rw [hg];exact Nat.ne_of_gt (blk_lt (g:=gb453) (o:= .cells #[.slice Ao23 t446.length co23,.int .i64 t449,.string t450,.int .i64 t451] 36 (0,0)) (by (with_reducible repeat (first|apply bN|apply bd|apply bA));exact BK453.out)):gb468 ≠ gb453));have n14_:=Aside0.mk ((by rw [hg];exact Nat.ne_of_lt (blk_lt (g:=gb460) (o:= .cells #[.slice Ao29 t454.length co29,.int .i64 t457,.string t458,.int .i64 t459] 36 (0,0)) (by (with_reducible repeat (first|apply bN|apply bd|apply bA));exact BK460.out)):gb460 ≠ gb468));have n15_:=Aside0.mk ((by rw [hg];exact Nat.ne_of_gt (blk_lt (g:=gb460) (o:= .cells #[.slice Ao29 t454.length co29,.int .i64 t457,.string t458,.int .i64 t459] 36 (0,0)) (by (with_reducible repeat (first|apply bN|apply bd|apply bA));exact BK460.out)):gb468 ≠ gb460));clear HO448;clear HO456;clear HO463;clear BK438;clear BK453;clear BK460;clear HB;have HO448:=n0_;have HO456:=n1_;have HO463:=n2_;have BK438:=n3_;have BK453:=n4_;have BK460:=n5_;have HB:=n6_;have BK468:=n7_;have GW468:=n8_;have GE468:=n9_;have NB438_468:=n10_;have NB468_438:=n11_;have NB453_468:=n12_;have NB468_453:=n13_;have NB460_468:=n14_;have NB468_460:=n15_;clear n0_ n1_ n2_ n3_ n4_ n5_ n6_ n7_ n8_ n9_ n10_ n11_ n12_ n13_ n14_ n15_;clear hb hbox hg;obtain ⟨Ao35,co35,eo35⟩:=Kd.R_slice HO463.out;subst eo35;have hnb36:=NB468_438.out;have hnc36:=NB438_468.out;have hnb37:=NB468_453.out;have hnc37:=NB453_468.out;have hnb38:=NB468_460.out;have hnc38:=NB460_468.out;have hcz39_0:w34.cell? ⟨gb468,0,none⟩=some (.slice none 0 0):=(blk_cell BK468.out 0).trans rfl;have hcz39_1:w34.cell? ⟨gb468,1,none⟩=some (.int .i64 0):=(blk_cell BK468.out 1).trans rfl;have hcz39_2:w34.cell? ⟨gb468,2,none⟩=some (.string (⟨#[]⟩:ByteArray)):=(blk_cell BK468.out 2).trans rfl;have hcz39_3:w34.cell? ⟨gb468,3,none⟩=some (.int .i64 0):=(blk_cell BK468.out 3).trans rfl;have hfz39_0:=blk_frozen BK468.out 0;have hfz39_1:=blk_frozen BK468.out 1;have hfz39_2:=blk_frozen BK468.out 2;have hfz39_3:=blk_frozen BK468.out 3))
      (try simp only [Act.put,List.setIfInBounds_toArray,List.set_cons_zero,List.set_cons_succ])
      go_cut [47] (fun v47 wc=> ∃ (kq:Nat) (x47_13:Bool),v47= .bool x47_13 ∧ Aside0 (laws_FnExactAbsorbText.j0 kq a1 t452 t467 x47_13 l0_0 a0_1 a0_2 a0_3 t446 t449 t450 t451 t454 t457 t458 t459 t461 t464 t465 t466=some r) ∧ Aside0 (kq ≤ k) ∧ Aside0 (Kd.R k79 79 wc w.heap.size (fun k_=> some k_ ≠ ((.slice Ao29 t454.length co29):Value).ownBlock ∧ some k_ ≠ ((.slice Ao35 t461.length co35):Value).ownBlock) (.slice Ao23 t446.length co23) t446) ∧ Aside0 (Kd.R k79 79 wc w.heap.size (fun k_=> some k_ ≠ ((.slice Ao23 t446.length co23):Value).ownBlock ∧ some k_ ≠ ((.slice Ao35 t461.length co35):Value).ownBlock) (.slice Ao29 t454.length co29) t454) ∧ Aside0 (Kd.R k79 79 wc w.heap.size (fun k_=> some k_ ≠ ((.slice Ao23 t446.length co23):Value).ownBlock ∧ some k_ ≠ ((.slice Ao29 t454.length co29):Value).ownBlock) (.slice Ao35 t461.length co35) t461) ∧ Aside0 (wc.heap[gb438]?=some (.cells #[(.slice A0_0 l0_0.length c0_0),.int .i64 a0_1,.string a0_2,.int .i64 a0_3] 61 (0,0))) ∧ Aside0 (wc.heap[gb453]?=some (.cells #[(.slice Ao23 t446.length co23),.int .i64 t449,.string t450,.int .i64 t451] 36 (0,0))) ∧ Aside0 (wc.heap[gb460]?=some (.cells #[(.slice Ao29 t454.length co29),.int .i64 t457,.string t458,.int .i64 t459] 36 (0,0))) ∧ Aside0 (wc.heap[gb468]?=some (.cells #[(.slice Ao35 t461.length co35),.int .i64 t464,.string t465,.int .i64 t466] 36 (0,0))) ∧ Aside0 (Below w.heap.size w wc))
      case first=>
        have H:=HC14.out
        clear HC14
        replace H:=Option.bind_eq_some_iff.mp H
        obtain ⟨t469,A400,H⟩:=H
        replace H:(if t469=true then (laws_FnExactAbsorbText.j0 k a1 t452 t467 (t467 !=t452) l0_0 a0_1 a0_2 a0_3 t446 t449 t450 t451 t454 t457 t458 t459 t461 t464 t465 t466) else (none))=some r:=H
        have A40:=Aside0.mk A400
        clear A400
        by_cases c41:t469=true
        · subst c41
          have H1:(laws_FnExactAbsorbText.j0 k a1 t452 t467 (t467 !=t452) l0_0 a0_1 a0_2 a0_3 t446 t449 t450 t451 t454 t457 t458 t459 t461 t464 t465 t466)=some r:=by rw [if_pos rfl] at H;exact H
          clear H
          have H:=H1
          clear H1
          have H':=Aside0.mk H
          clear H
          have hnb42:=NB468_438.out
          have hnc42:=NB438_468.out
          have hnb43:=NB468_453.out
          have hnc43:=NB453_468.out
          have hnb44:=NB468_460.out
          have hnc44:=NB460_468.out
          have hcz45_0:w34.cell? ⟨gb468,0,none⟩=some (.slice none 0 0):=(blk_cell BK468.out 0).trans rfl
          have hcz45_1:w34.cell? ⟨gb468,1,none⟩=some (.int .i64 0):=(blk_cell BK468.out 1).trans rfl
          have hcz45_2:w34.cell? ⟨gb468,2,none⟩=some (.string (⟨#[]⟩:ByteArray)):=(blk_cell BK468.out 2).trans rfl
          have hcz45_3:w34.cell? ⟨gb468,3,none⟩=some (.int .i64 0):=(blk_cell BK468.out 3).trans rfl
          have hfz45_0:=blk_frozen BK468.out 0
          have hfz45_1:=blk_frozen BK468.out 1
          have hfz45_2:=blk_frozen BK468.out 2
          have hfz45_3:=blk_frozen BK468.out 3
          have hnb46:=NB453_438.out
          have hnc46:=NB438_453.out
          have hnb47:=NB453_460.out
          have hnc47:=NB460_453.out
          have hcz48_0:w34.cell? ⟨gb453,0,none⟩=some (.slice Ao23 t446.length co23):=(blk_cell BK453.out 0).trans rfl
          have hcz48_1:w34.cell? ⟨gb453,1,none⟩=some (.int .i64 t449):=(blk_cell BK453.out 1).trans rfl
          have hcz48_2:w34.cell? ⟨gb453,2,none⟩=some (.string t450):=(blk_cell BK453.out 2).trans rfl
          have hcz48_3:w34.cell? ⟨gb453,3,none⟩=some (.int .i64 t451):=(blk_cell BK453.out 3).trans rfl
          have hfz48_0:=blk_frozen BK453.out 0
          have hfz48_1:=blk_frozen BK453.out 1
          have hfz48_2:=blk_frozen BK453.out 2
          have hfz48_3:=blk_frozen BK453.out 3
          go_wp2_with (first|((with_reducible refine gate_callee (f:=36) rfl ?_);refine goesL_ (some 41) rfl rfl Try.func36 (by kernel_rfl) rfl #[.agg #[.slice Ao35 t461.length co35,.int .i64 t464,.string t465,.int .i64 t466],.agg #[.slice Ao23 t446.length co23,.int .i64 t449,.string t450,.int .i64 t451]] rfl (by (try simp only [List.map_toArray,List.map_cons,List.map_nil]);first|done|rfl|(simp only [List.length_drop,List.length_take];rfl)) ?_;(with_reducible refine (laws_eqSource.calls k _ _ t461 t464 t465 t466 _ _ t446 t449 t450 t451 true _ ?side1 ?side2 ?side3 ?side4 A40.out).mono ?_);(case side1=> refine (Kd.R_reads' (e:=79) (base:=w.heap.size) (ok:=fun k_=> ((True ∧ some k_ ≠ (.slice Ao23 t446.length co23:Value).ownBlock) ∧ some k_ ≠ (.slice Ao29 t454.length co29:Value).ownBlock)) (n:=t461.length) (c:=co35) ?_).2.2;exact (by (with_reducible repeat (first|apply Kd.R_alloc|apply Kd.R_drewN|apply Kd.R_drew));exact (Kd.R_mono (Kd.R_far (p:=⟨gb468,3,none⟩) (Kd.R_far (p:=⟨gb468,2,none⟩) (Kd.R_far (p:=⟨gb468,1,none⟩) (Kd.R_far (p:=⟨gb468,0,none⟩) (Kd.R_types HO463.out BK468.out (by decide)) (fun _ hk=> hk.2) (.slice Ao35 t461.length co35)) (fun _ hk=> hk.2) (.int .i64 t464)) (fun _ hk=> hk.2) (.string t465)) (fun _ hk=> hk.2) (.int .i64 t466)) (fun _ h_=> h_.1))));(case side2=> exact (Kd.R_reads' HO463.out).2.1);(case side3=> refine (Kd.R_reads' (e:=79) (base:=w.heap.size) (ok:=fun k_=> ((True ∧ some k_ ≠ (.slice Ao29 t454.length co29:Value).ownBlock) ∧ some k_ ≠ (.slice Ao35 t461.length co35:Value).ownBlock)) (n:=t446.length) (c:=co23) ?_).2.2;exact (by (with_reducible repeat (first|apply Kd.R_alloc|apply Kd.R_drewN|apply Kd.R_drew));exact (Kd.R_mono (Kd.R_far (p:=⟨gb468,3,none⟩) (Kd.R_far (p:=⟨gb468,2,none⟩) (Kd.R_far (p:=⟨gb468,1,none⟩) (Kd.R_far (p:=⟨gb468,0,none⟩) (Kd.R_types HO448.out BK468.out (by decide)) (fun _ hk=> hk.2) (.slice Ao35 t461.length co35)) (fun _ hk=> hk.2) (.int .i64 t464)) (fun _ hk=> hk.2) (.string t465)) (fun _ hk=> hk.2) (.int .i64 t466)) (fun _ h_=> h_.1))));(case side4=> exact (Kd.R_reads' HO448.out).2.1);rintro e w49 ⟨rfl,hb⟩;refine ⟨_,rfl,?_⟩;have n0_:=Aside0.mk (Kd.R_below (by (with_reducible repeat (first|apply Kd.R_alloc|apply Kd.R_drewN|apply Kd.R_drew));exact (Kd.R_mono (Kd.R_far (p:=⟨gb468,3,none⟩) (Kd.R_far (p:=⟨gb468,2,none⟩) (Kd.R_far (p:=⟨gb468,1,none⟩) (Kd.R_far (p:=⟨gb468,0,none⟩) (Kd.R_types HO448.out BK468.out (by decide)) (fun _ hk=> hk.2) (.slice Ao35 t461.length co35)) (fun _ hk=> hk.2) (.int .i64 t464)) (fun _ hk=> hk.2) (.string t465)) (fun _ hk=> hk.2) (.int .i64 t466)) (fun _ h_=> h_.1))) hb);have n1_:=Aside0.mk (Kd.R_below (by (with_reducible repeat (first|apply Kd.R_alloc|apply Kd.R_drewN|apply Kd.R_drew));exact (Kd.R_mono (Kd.R_far (p:=⟨gb468,3,none⟩) (Kd.R_far (p:=⟨gb468,2,none⟩) (Kd.R_far (p:=⟨gb468,1,none⟩) (Kd.R_far (p:=⟨gb468,0,none⟩) (Kd.R_types HO456.out BK468.out (by decide)) (fun _ hk=> hk.2) (.slice Ao35 t461.length co35)) (fun _ hk=> hk.2) (.int .i64 t464)) (fun _ hk=> hk.2) (.string t465)) (fun _ hk=> hk.2) (.int .i64 t466)) (fun _ h_=> h_.1))) hb);have n2_:=Aside0.mk (Kd.R_below (by (with_reducible repeat (first|apply Kd.R_alloc|apply Kd.R_drewN|apply Kd.R_drew));exact (Kd.R_mono (Kd.R_far (p:=⟨gb468,3,none⟩) (Kd.R_far (p:=⟨gb468,2,none⟩) (Kd.R_far (p:=⟨gb468,1,none⟩) (Kd.R_far (p:=⟨gb468,0,none⟩) (Kd.R_types HO463.out BK468.out (by decide)) (fun _ hk=> hk.2) (.slice Ao35 t461.length co35)) (fun _ hk=> hk.2) (.int .i64 t464)) (fun _ hk=> hk.2) (.string t465)) (fun _ hk=> hk.2) (.int .i64 t466)) (fun _ h_=> h_.1))) hb);have n3_:=Aside0.mk (blk_below (g:=gb438) (o:= .cells #[.slice A0_0 l0_0.length c0_0,.int .i64 a0_1,.string a0_2,.int .i64 a0_3] 61 (0,0)) (by (with_reducible repeat (first|apply bN|apply bd|apply bA));refine blk_far ?_ NB438_468.out _;(with_reducible repeat (first|apply bN|apply bd|apply bA));refine blk_far ?_ NB438_468.out _;(with_reducible repeat (first|apply bN|apply bd|apply bA));refine blk_far ?_ NB438_468.out _;(with_reducible repeat (first|apply bN|apply bd|apply bA));refine blk_far ?_ NB438_468.out _;(with_reducible repeat (first|apply bN|apply bd|apply bA));exact BK438.out) hb);have n4_:=Aside0.mk (blk_below (g:=gb453) (o:= .cells #[.slice Ao23 t446.length co23,.int .i64 t449,.string t450,.int .i64 t451] 36 (0,0)) (by (with_reducible repeat (first|apply bN|apply bd|apply bA));refine blk_far ?_ NB453_468.out _;(with_reducible repeat (first|apply bN|apply bd|apply bA));refine blk_far ?_ NB453_468.out _;(with_reducible repeat (first|apply bN|apply bd|apply bA));refine blk_far ?_ NB453_468.out _;(with_reducible repeat (first|apply bN|apply bd|apply bA));refine blk_far ?_ NB453_468.out _;(with_reducible repeat (first|apply bN|apply bd|apply bA));exact BK453.out) hb);have n5_:=Aside0.mk (blk_below (g:=gb460) (o:= .cells #[.slice Ao29 t454.length co29,.int .i64 t457,.string t458,.int .i64 t459] 36 (0,0)) (by (with_reducible repeat (first|apply bN|apply bd|apply bA));refine blk_far ?_ NB460_468.out _;(with_reducible repeat (first|apply bN|apply bd|apply bA));refine blk_far ?_ NB460_468.out _;(with_reducible repeat (first|apply bN|apply bd|apply bA));refine blk_far ?_ NB460_468.out _;(with_reducible repeat (first|apply bN|apply bd|apply bA));refine blk_far ?_ NB460_468.out _;(with_reducible repeat (first|apply bN|apply bd|apply bA));exact BK460.out) hb);have n6_:=Aside0.mk (blk_below (g:=gb468) (o:= .cells #[.slice Ao35 t461.length co35,.int .i64 t464,.string t465,.int .i64 t466] 36 (0,0)) (by (with_reducible repeat (first|apply bN|apply bd|apply bA));refine blk_put (cs:= #[.slice Ao35 t461.length co35,.int .i64 t464,.string t465,.int .i64 0]) ?_ 3 _ rfl;(with_reducible repeat (first|apply bN|apply bd|apply bA));refine blk_put (cs:= #[.slice Ao35 t461.length co35,.int .i64 t464,.string (⟨#[]⟩:ByteArray),.int .i64 0]) ?_ 2 _ rfl;(with_reducible repeat (first|apply bN|apply bd|apply bA));refine blk_put (cs:= #[.slice Ao35 t461.length co35,.int .i64 0,.string (⟨#[]⟩:ByteArray),.int .i64 0]) ?_ 1 _ rfl;(with_reducible repeat (first|apply bN|apply bd|apply bA));refine blk_put (cs:= #[.slice none 0 0,.int .i64 0,.string (⟨#[]⟩:ByteArray),.int .i64 0]) ?_ 0 _ rfl;(with_reducible repeat (first|apply bN|apply bd|apply bA));exact BK468.out) hb);have n7_:=Aside0.mk (below_step (by repeat (first|(with_reducible first|exact HB.out|apply below_alloc|apply pw_below_drewN|apply below_drew1|refine below_set ?_ GE438.out|refine below_set ?_ GE453.out|refine below_set ?_ GE460.out|refine below_set ?_ GE468.out)|exact HB.out)) hb);clear HO448;clear HO456;clear HO463;clear BK438;clear BK453;clear BK460;clear BK468;clear HB;have HO448:=n0_;have HO456:=n1_;have HO463:=n2_;have BK438:=n3_;have BK453:=n4_;have BK460:=n5_;have BK468:=n6_;have HB:=n7_;clear n0_ n1_ n2_ n3_ n4_ n5_ n6_ n7_;(try clear hb);(try clear hb2);(try clear hk);(try clear hi)))
          go_meet
          case rel=> exact ⟨_,((t467 !=t452)),(by first|rfl|(simp;done)|(simp [*];done)),H',⟨by first|omega|exact Nat.le_refl _⟩,⟨by (with_reducible repeat (first|apply Kd.R_alloc|apply Kd.R_drewN|apply Kd.R_drew));exact Kd.R_mono HO448.out (fun _ hk=> ⟨hk.1.2,hk.2⟩)⟩,⟨by (with_reducible repeat (first|apply Kd.R_alloc|apply Kd.R_drewN|apply Kd.R_drew));exact Kd.R_mono HO456.out (fun _ hk=> ⟨hk.1.2,hk.2⟩)⟩,⟨by (with_reducible repeat (first|apply Kd.R_alloc|apply Kd.R_drewN|apply Kd.R_drew));exact Kd.R_mono HO463.out (fun _ hk=> ⟨hk.1.2,hk.2⟩)⟩,⟨by (with_reducible repeat (first|apply bN|apply bd|apply bA));exact BK438.out⟩,⟨by (with_reducible repeat (first|apply bN|apply bd|apply bA));exact BK453.out⟩,⟨by (with_reducible repeat (first|apply bN|apply bd|apply bA));exact BK460.out⟩,⟨by (with_reducible repeat (first|apply bN|apply bd|apply bA));exact BK468.out⟩,⟨by repeat (first|(with_reducible first|exact HB.out|apply below_alloc|apply pw_below_drewN|apply below_drew1|refine below_set ?_ GE438.out|refine below_set ?_ GE453.out|refine below_set ?_ GE460.out|refine below_set ?_ GE468.out)|exact HB.out)⟩⟩
        · replace c41:=Bool.eq_false_iff.mpr c41
          subst c41
          have H1:(none)=some r:=by rw [if_neg (show ¬ (false=true) by decide)] at H;exact H
          clear H
          have H:=H1
          clear H1
          exact absurd H (by simp)
      case rest=>
        clear HC14
        try clear c1
        try clear c2
        try clear p2
        try clear c3
        try clear c3b0
        try clear c3b1
        try clear c4
        try clear c5
        try clear c6
        try clear c6b0
        try clear c16
        try clear c24
        try clear c30
        try clear c31
        try clear c36
        try clear c37
        try clear c38
        try clear c41
        try clear c42
        try clear c43
        try clear c44
        try clear c46
        try clear c47
        try clear hcz16_0
        try clear hcz16_1
        try clear hcz16_2
        try clear hcz16_3
        try clear hcz18_0
        try clear hcz18_1
        try clear hcz18_2
        try clear hcz18_3
        try clear hcz25_0
        try clear hcz25_1
        try clear hcz25_2
        try clear hcz25_3
        try clear hcz26_0
        try clear hcz26_1
        try clear hcz26_2
        try clear hcz26_3
        try clear hcz32_0
        try clear hcz32_1
        try clear hcz32_2
        try clear hcz32_3
        try clear hcz39_0
        try clear hcz39_1
        try clear hcz39_2
        try clear hcz39_3
        try clear hcz45_0
        try clear hcz45_1
        try clear hcz45_2
        try clear hcz45_3
        try clear hcz48_0
        try clear hcz48_1
        try clear hcz48_2
        try clear hcz48_3
        try clear hcz8_0
        try clear hcz8_1
        try clear hcz8_2
        try clear hcz8_3
        try clear hfz16_0
        try clear hfz16_1
        try clear hfz16_2
        try clear hfz16_3
        try clear hfz18_0
        try clear hfz18_1
        try clear hfz18_2
        try clear hfz18_3
        try clear hfz25_0
        try clear hfz25_1
        try clear hfz25_2
        try clear hfz25_3
        try clear hfz26_0
        try clear hfz26_1
        try clear hfz26_2
        try clear hfz26_3
        try clear hfz32_0
        try clear hfz32_1
        try clear hfz32_2
        try clear hfz32_3
        try clear hfz39_0
        try clear hfz39_1
        try clear hfz39_2
        try clear hfz39_3
        try clear hfz45_0
        try clear hfz45_1
        try clear hfz45_2
        try clear hfz45_3
        try clear hfz48_0
        try clear hfz48_1
        try clear hfz48_2
        try clear hfz48_3
        try clear hfz8_0
        try clear hfz8_1
        try clear hfz8_2
        try clear hfz8_3
        obtain ⟨kq,x47_13,rfl,HA,HJ13,HO_454000,HO_461000,HO_469000,BK438,BK453,BK460,BK468,HB⟩:=hcut
        cases kq with
        |zero=> exact absurd HA.out (by simp [laws_FnExactAbsorbText.j0])
        |succ kj13=>
          have H:=HA.out
          clear HA
          simp only [laws_FnExactAbsorbText.j0] at H
          by_cases c50:x47_13=true
          · subst c50
            have H1:(none)=some r:=by rw [if_pos rfl] at H;exact H
            clear H
            have H:=H1
            clear H1
            exact absurd H (by simp)
          · replace c50:=Bool.eq_false_iff.mpr c50
            subst c50
            have H1:((laws_toSource.f kj13 l0_0 a0_1 a0_2 a0_3).bind fun bt470=> ((laws_eqSource.f kj13 t454 t457 t458 t459 bt470.1 bt470.2.1 bt470.2.2.1 bt470.2.2.2).bind fun t476=> (if t476=true then ((laws_markSource.f kj13 t454 t457 t458 t459 1).bind fun bt477=> (if bt477.1 < 0 then (none) else ((laws_eqSource.f kj13 t461 t464 t465 t466 t446 t449 t450 t451).bind fun t479=> (if t479=true then (laws_FnExactAbsorbText.j1 kj13 a1 t452 (t467 !=t452) l0_0 a0_1 a0_2 a0_3 t446 t449 t450 t451 t461 t464 t465 t466) else (none))))) else (none))))=some r:=by rw [if_neg (show ¬ (false=true) by decide)] at H;exact H
            clear H
            have H:=H1
            clear H1
            replace H:=Option.bind_eq_some_iff.mp H
            obtain ⟨⟨t470,t473,t474,t475⟩,A510,H⟩:=H
            replace H:((laws_eqSource.f kj13 t454 t457 t458 t459 t470 t473 t474 t475).bind fun t476=> (if t476=true then ((laws_markSource.f kj13 t454 t457 t458 t459 1).bind fun bt477=> (if bt477.1 < 0 then (none) else ((laws_eqSource.f kj13 t461 t464 t465 t466 t446 t449 t450 t451).bind fun t479=> (if t479=true then (laws_FnExactAbsorbText.j1 kj13 a1 t452 (t467 !=t452) l0_0 a0_1 a0_2 a0_3 t446 t449 t450 t451 t461 t464 t465 t466) else (none))))) else (none)))=some r:=H
            have A51:=Aside0.mk A510
            clear A510
            replace H:=Option.bind_eq_some_iff.mp H
            obtain ⟨t476,A520,H⟩:=H
            replace H:(if t476=true then ((laws_markSource.f kj13 t454 t457 t458 t459 1).bind fun bt477=> (if bt477.1 < 0 then (none) else ((laws_eqSource.f kj13 t461 t464 t465 t466 t446 t449 t450 t451).bind fun t479=> (if t479=true then (laws_FnExactAbsorbText.j1 kj13 a1 t452 (t467 !=t452) l0_0 a0_1 a0_2 a0_3 t446 t449 t450 t451 t461 t464 t465 t466) else (none))))) else (none))=some r:=H
            have A52:=Aside0.mk A520
            clear A520
            by_cases c53:t476=true
            · subst c53
              have H1:((laws_markSource.f kj13 t454 t457 t458 t459 1).bind fun bt477=> (if bt477.1 < 0 then (none) else ((laws_eqSource.f kj13 t461 t464 t465 t466 t446 t449 t450 t451).bind fun t479=> (if t479=true then (laws_FnExactAbsorbText.j1 kj13 a1 t452 (t467 !=t452) l0_0 a0_1 a0_2 a0_3 t446 t449 t450 t451 t461 t464 t465 t466) else (none)))))=some r:=by rw [if_pos rfl] at H;exact H
              clear H
              have H:=H1
              clear H1
              replace H:=Option.bind_eq_some_iff.mp H
              obtain ⟨⟨t477,t478⟩,A540,H⟩:=H
              replace H:(if t477 < 0 then (none) else ((laws_eqSource.f kj13 t461 t464 t465 t466 t446 t449 t450 t451).bind fun t479=> (if t479=true then (laws_FnExactAbsorbText.j1 kj13 a1 t452 (t467 !=t452) l0_0 a0_1 a0_2 a0_3 t446 t449 t450 t451 t461 t464 t465 t466) else (none))))=some r:=H
              have A54:=Aside0.mk A540
              clear A540
              have HC55:=Aside0.mk H
              clear H
              try go_wp2
              have n0_:=Aside0.mk (Kd.R_drew HO_454000.out)
              have n1_:=Aside0.mk (Kd.R_drew HO_461000.out)
              have n2_:=Aside0.mk (Kd.R_drew HO_469000.out)
              have n3_:=Aside0.mk (blk_drew BK438.out)
              have n4_:=Aside0.mk (blk_drew BK453.out)
              have n5_:=Aside0.mk (blk_drew BK460.out)
              have n6_:=Aside0.mk (blk_drew BK468.out)
              have n7_:=Aside0.mk (below_drew1 HB.out)
              clear HO_454000
              clear HO_461000
              clear HO_469000
              clear BK438
              clear BK453
              clear BK460
              clear BK468
              clear HB
              have HO_454000:=n0_
              have HO_461000:=n1_
              have HO_469000:=n2_
              have BK438:=n3_
              have BK453:=n4_
              have BK460:=n5_
              have BK468:=n6_
              have HB:=n7_
              clear n0_ n1_ n2_ n3_ n4_ n5_ n6_ n7_
              refine start_ (n:=5) (S:=fun w'=> w'.cell? ⟨gb460,0,none⟩=some (.slice Ao29 t454.length co29) ∧ w'.cell? ⟨gb460,1,none⟩=some (.int .i64 t457) ∧ w'.cell? ⟨gb460,2,none⟩=some (.string t458) ∧ w'.cell? ⟨gb460,3,none⟩=some (.int .i64 t459) ∧ w'.cell? ⟨gb438,0,none⟩=some (.slice A0_0 l0_0.length c0_0) ∧ w'.cell? ⟨gb438,1,none⟩=some (.int .i64 a0_1) ∧ w'.cell? ⟨gb438,2,none⟩=some (.string a0_2) ∧ w'.cell? ⟨gb438,3,none⟩=some (.int .i64 a0_3)) (ds:= []) #[false,false,false,false,false] (by kernel_rfl) rfl rfl ⟨(blk_cell BK460.out 0).trans rfl,(blk_cell BK460.out 1).trans rfl,(blk_cell BK460.out 2).trans rfl,(blk_cell BK460.out 3).trans rfl,(blk_cell BK438.out 0).trans rfl,(blk_cell BK438.out 1).trans rfl,(blk_cell BK438.out 2).trans rfl,(blk_cell BK438.out 3).trans rfl⟩ (fun hHeld=> ?_)
              generalize wc.drew=w56 at HO_454000 HO_461000 HO_469000 BK438 BK453 BK460 BK468 HB hHeld ⊢
              refine take_ (i:=0) (N:=some 48) (v:=?_) (a':=?_) #[true,false,false,false,false] rfl rfl (by kernel_rfl) (fun _ _ _ h=> h) (Or.inl ⟨by rfl,?_⟩) hHeld ?_ ?_
              rotate_left
              · rintro w' ⟨s0,s1,s2,s3,s4,s5,s6,s7⟩
                go_simp
                with_reducible rfl
              rotate_left
              · simp only [Act.put,List.setIfInBounds_toArray,List.set_cons_zero,List.set_cons_succ,i64_w,i32_w]
                rfl
              refine take_ (i:=1) (N:=some 49) (v:=?_) (a':=?_) #[true,true,false,false,false] rfl rfl (by kernel_rfl) (fun _ _ _ h=> h) (Or.inl ⟨by rfl,?_⟩) hHeld ?_ ?_
              rotate_left
              · rintro w' ⟨s0,s1,s2,s3,s4,s5,s6,s7⟩
                go_simp
                with_reducible rfl
              rotate_left
              · simp only [Act.put,List.setIfInBounds_toArray,List.set_cons_zero,List.set_cons_succ,i64_w,i32_w]
                rfl
              refine one_ (i:=2) (N:=some 50) #[true,true,true,false,false] rfl rfl (by kernel_rfl) (by decide) (fun K hK=> ?_)
              refine goes_ Try.func55 (by kernel_rfl) rfl #[.agg #[.slice A0_0 l0_0.length c0_0,.int .i64 a0_1,.string a0_2,.int .i64 a0_3]] (by rfl) rfl rfl (by (try simp only [List.map_toArray,List.map_cons,List.map_nil]);first|done|rfl|(simp only [List.length_drop,List.length_take];rfl)) ?_
              with_reducible refine (laws_toSource.calls kj13 _ _ l0_0 a0_1 a0_2 a0_3 t470 t473 t474 t475 _ ?side1 ?side2 A51.out).mono ?_
              (case side1=> repeat (first|exact (Kd.C_below HR0_0.out HB.out)|(with_reducible refine Kd.C_alloc ?_ _)|(with_reducible refine Kd.C_drewN ?_ _)|(with_reducible refine Kd.C_drew ?_)))
              (case side2=> exact HC0_0.out)
              rintro e w57 ⟨v471,rfl,ho0,hb⟩
              refine ⟨_,rfl,?_⟩
              have n0_:=Aside0.mk (Kd.R_elder' (by (with_reducible repeat (first|apply Kd.R_alloc|apply Kd.R_drewN|apply Kd.R_drew));exact HO_454000.out) (Kd.R_base ho0) hb)
              have n1_:=Aside0.mk (Kd.R_elder' (by (with_reducible repeat (first|apply Kd.R_alloc|apply Kd.R_drewN|apply Kd.R_drew));exact HO_461000.out) (Kd.R_base ho0) hb)
              have n2_:=Aside0.mk (Kd.R_elder' (by (with_reducible repeat (first|apply Kd.R_alloc|apply Kd.R_drewN|apply Kd.R_drew));exact HO_469000.out) (Kd.R_base ho0) hb)
              have n3_:=Aside0.mk (Kd.R_lower (Kd.R_new' (Kd.R_new' (Kd.R_new' ho0 (Kd.R_lt (by (with_reducible repeat (first|apply Kd.R_alloc|apply Kd.R_drewN|apply Kd.R_drew));exact HO_454000.out))) (Kd.R_lt (by (with_reducible repeat (first|apply Kd.R_alloc|apply Kd.R_drewN|apply Kd.R_drew));exact HO_461000.out))) (Kd.R_lt (by (with_reducible repeat (first|apply Kd.R_alloc|apply Kd.R_drewN|apply Kd.R_drew));exact HO_469000.out))) (below_size (by repeat (first|(with_reducible first|exact HB.out|apply below_alloc|apply pw_below_drewN|apply below_drew1|refine below_set ?_ GE438.out|refine below_set ?_ GE453.out|refine below_set ?_ GE460.out|refine below_set ?_ GE468.out)|exact HB.out))))
              have n4_:=Aside0.mk (blk_below (g:=gb438) (o:= .cells #[.slice A0_0 l0_0.length c0_0,.int .i64 a0_1,.string a0_2,.int .i64 a0_3] 61 (0,0)) (by (with_reducible repeat (first|apply bN|apply bd|apply bA));exact BK438.out) hb)
              have n5_:=Aside0.mk (blk_below (g:=gb453) (o:= .cells #[.slice Ao23 t446.length co23,.int .i64 t449,.string t450,.int .i64 t451] 36 (0,0)) (by (with_reducible repeat (first|apply bN|apply bd|apply bA));exact BK453.out) hb)
              have n6_:=Aside0.mk (blk_below (g:=gb460) (o:= .cells #[.slice Ao29 t454.length co29,.int .i64 t457,.string t458,.int .i64 t459] 36 (0,0)) (by (with_reducible repeat (first|apply bN|apply bd|apply bA));exact BK460.out) hb)
              have n7_:=Aside0.mk (blk_below (g:=gb468) (o:= .cells #[.slice Ao35 t461.length co35,.int .i64 t464,.string t465,.int .i64 t466] 36 (0,0)) (by (with_reducible repeat (first|apply bN|apply bd|apply bA));exact BK468.out) hb)
              have n8_:=Aside0.mk (below_step (by repeat (first|(with_reducible first|exact HB.out|apply below_alloc|apply pw_below_drewN|apply below_drew1|refine below_set ?_ GE438.out|refine below_set ?_ GE453.out|refine below_set ?_ GE460.out|refine below_set ?_ GE468.out)|exact HB.out)) hb)
              clear HO_454000
              clear HO_461000
              clear HO_469000
              clear BK438
              clear BK453
              clear BK460
              clear BK468
              clear HB
              have HO_454000:=n0_
              have HO_461000:=n1_
              have HO_469000:=n2_
              have HO472:=n3_
              have BK438:=n4_
              have BK453:=n5_
              have BK460:=n6_
              have BK468:=n7_
              have HB:=n8_
              clear n0_ n1_ n2_ n3_ n4_ n5_ n6_ n7_ n8_
              (try clear hb)
              (try clear hb2)
              (try clear hk)
              (try clear hi)
              (try clear ho0)
              obtain ⟨Ao58,co58,eo58⟩:=Kd.R_slice HO472.out
              (first|subst eo58|(injection eo58 with f1_ f2_ f3_;have f4_:=f1_.symm;have f5_:=f3_.symm;clear f1_ f2_ f3_;subst f4_;subst f5_))
              refine hK.out _ _ ⟨(blk_cell BK460.out 0).trans rfl,(blk_cell BK460.out 1).trans rfl,(blk_cell BK460.out 2).trans rfl,(blk_cell BK460.out 3).trans rfl,(blk_cell BK438.out 0).trans rfl,(blk_cell BK438.out 1).trans rfl,(blk_cell BK438.out 2).trans rfl,(blk_cell BK438.out 3).trans rfl⟩ (fun hHeld=> ?_)
              clear hK K
              refine norm_ (a':=?_) ?_ ?_
              rotate_left
              · show Act.put _ (some 50) _=_
                simp only [Act.put,List.setIfInBounds_toArray,List.set_cons_zero,List.set_cons_succ,i64_w,i32_w]
                rfl
              refine one_ (i:=3) (N:=some 51) #[true,true,true,true,false] rfl rfl (by kernel_rfl) (by decide) (fun K hK=> ?_)
              refine goes_ Try.func36 (by kernel_rfl) rfl #[.agg #[.slice Ao29 t454.length co29,.int .i64 t457,.string t458,.int .i64 t459],.agg #[.slice Ao58 t470.length co58,.int .i64 t473,.string t474,.int .i64 t475]] (by rfl) rfl rfl (by (try simp only [List.map_toArray,List.map_cons,List.map_nil]);first|done|rfl|(simp only [List.length_drop,List.length_take];rfl)) ?_
              with_reducible refine (laws_eqSource.calls kj13 _ _ t454 t457 t458 t459 _ _ t470 t473 t474 t475 true _ ?side1 ?side2 ?side3 ?side4 A52.out).mono ?_
              (case side1=> repeat (first|exact (Kd.R_reads' HO_461000.out).2.2|(with_reducible refine Kd.C_alloc ?_ _)|(with_reducible refine Kd.C_drewN ?_ _)|(with_reducible refine Kd.C_drew ?_)))
              (case side2=> exact (Kd.R_reads' HO_461000.out).2.1)
              (case side3=> repeat (first|exact (Kd.R_reads' HO472.out).2.2|(with_reducible refine Kd.C_alloc ?_ _)|(with_reducible refine Kd.C_drewN ?_ _)|(with_reducible refine Kd.C_drew ?_)))
              (case side4=> exact (Kd.R_reads' HO472.out).2.1)
              rintro e w59 ⟨rfl,hb⟩
              refine ⟨_,rfl,?_⟩
              have n0_:=Aside0.mk (Kd.R_below (by (with_reducible repeat (first|apply Kd.R_alloc|apply Kd.R_drewN|apply Kd.R_drew));exact HO_454000.out) hb)
              have n1_:=Aside0.mk (Kd.R_below (by (with_reducible repeat (first|apply Kd.R_alloc|apply Kd.R_drewN|apply Kd.R_drew));exact HO_461000.out) hb)
              have n2_:=Aside0.mk (Kd.R_below (by (with_reducible repeat (first|apply Kd.R_alloc|apply Kd.R_drewN|apply Kd.R_drew));exact HO_469000.out) hb)
              have n3_:=Aside0.mk (Kd.R_below (by (with_reducible repeat (first|apply Kd.R_alloc|apply Kd.R_drewN|apply Kd.R_drew));exact HO472.out) hb)
              have n4_:=Aside0.mk (blk_below (g:=gb438) (o:= .cells #[.slice A0_0 l0_0.length c0_0,.int .i64 a0_1,.string a0_2,.int .i64 a0_3] 61 (0,0)) (by (with_reducible repeat (first|apply bN|apply bd|apply bA));exact BK438.out) hb)
              have n5_:=Aside0.mk (blk_below (g:=gb453) (o:= .cells #[.slice Ao23 t446.length co23,.int .i64 t449,.string t450,.int .i64 t451] 36 (0,0)) (by (with_reducible repeat (first|apply bN|apply bd|apply bA));exact BK453.out) hb)
              have n6_:=Aside0.mk (blk_below (g:=gb460) (o:= .cells #[.slice Ao29 t454.length co29,.int .i64 t457,.string t458,.int .i64 t459] 36 (0,0)) (by (with_reducible repeat (first|apply bN|apply bd|apply bA));exact BK460.out) hb)
              have n7_:=Aside0.mk (blk_below (g:=gb468) (o:= .cells #[.slice Ao35 t461.length co35,.int .i64 t464,.string t465,.int .i64 t466] 36 (0,0)) (by (with_reducible repeat (first|apply bN|apply bd|apply bA));exact BK468.out) hb)
              have n8_:=Aside0.mk (below_step (by repeat (first|(with_reducible first|exact HB.out|apply below_alloc|apply pw_below_drewN|apply below_drew1|refine below_set ?_ GE438.out|refine below_set ?_ GE453.out|refine below_set ?_ GE460.out|refine below_set ?_ GE468.out)|exact HB.out)) hb)
              clear HO_454000
              clear HO_461000
              clear HO_469000
              clear HO472
              clear BK438
              clear BK453
              clear BK460
              clear BK468
              clear HB
              have HO_454000:=n0_
              have HO_461000:=n1_
              have HO_469000:=n2_
              have HO472:=n3_
              have BK438:=n4_
              have BK453:=n5_
              have BK460:=n6_
              have BK468:=n7_
              have HB:=n8_
              clear n0_ n1_ n2_ n3_ n4_ n5_ n6_ n7_ n8_
              (try clear hb)
              (try clear hb2)
              (try clear hk)
              (try clear hi)
              refine hK.out _ _ ⟨(blk_cell BK460.out 0).trans rfl,(blk_cell BK460.out 1).trans rfl,(blk_cell BK460.out 2).trans rfl,(blk_cell BK460.out 3).trans rfl,(blk_cell BK438.out 0).trans rfl,(blk_cell BK438.out 1).trans rfl,(blk_cell BK438.out 2).trans rfl,(blk_cell BK438.out 3).trans rfl⟩ (fun hHeld=> ?_)
              clear hK K
              refine norm_ (a':=?_) ?_ ?_
              rotate_left
              · show Act.put _ (some 51) _=_
                simp only [Act.put,List.setIfInBounds_toArray,List.set_cons_zero,List.set_cons_succ,i64_w,i32_w]
                rfl
              refine pure_ (i:=4) (N:=some 52) (v:=?_) (a':=?_) #[true,true,true,true,true] rfl rfl (by kernel_rfl) (fun _ _ _ h=> h) (Or.inl ⟨by rfl,?_⟩) ?_ ?_
              rotate_left
              · intro w'
                go_simp
                with_reducible rfl
              rotate_left
              · simp only [Act.put,List.setIfInBounds_toArray,List.set_cons_zero,List.set_cons_succ,i64_w,i32_w]
                rfl
              refine done_ (by kernel_rfl) ?_
              have hnb60:=NB460_438.out
              have hnc60:=NB438_460.out
              have hnb61:=NB460_453.out
              have hnc61:=NB453_460.out
              have hnb62:=NB460_468.out
              have hnc62:=NB468_460.out
              have hcz63_0:w59.cell? ⟨gb460,0,none⟩=some (.slice Ao29 t454.length co29):=(blk_cell BK460.out 0).trans rfl
              have hcz63_1:w59.cell? ⟨gb460,1,none⟩=some (.int .i64 t457):=(blk_cell BK460.out 1).trans rfl
              have hcz63_2:w59.cell? ⟨gb460,2,none⟩=some (.string t458):=(blk_cell BK460.out 2).trans rfl
              have hcz63_3:w59.cell? ⟨gb460,3,none⟩=some (.int .i64 t459):=(blk_cell BK460.out 3).trans rfl
              have hfz63_0:=blk_frozen BK460.out 0
              have hfz63_1:=blk_frozen BK460.out 1
              have hfz63_2:=blk_frozen BK460.out 2
              have hfz63_3:=blk_frozen BK460.out 3
              go_upto_region 16 with (first|((with_reducible refine gate_callee (f:=37) rfl ?_);refine goesL_ (some 55) rfl rfl Try.func37 (by kernel_rfl) rfl #[.agg #[.slice Ao29 t454.length co29,.int .i64 t457,.string t458,.int .i64 t459],.int .i64 1] rfl (by (try simp only [List.map_toArray,List.map_cons,List.map_nil]);first|done|rfl|(simp only [List.length_drop,List.length_take];rfl)) ?_;(with_reducible refine (laws_markSource.calls kj13 (fun k_=> some k_=(.slice Ao29 t454.length co29:Value).ownBlock) (.slice Ao29 t454.length co29) t454 t457 t458 t459 1 t477 t478 w _ ?side1 ?side2 A54.out).mono ?_);(case side1=> repeat (first|(with_reducible first|exact HB.out|apply below_alloc|apply pw_below_drewN|apply below_drew1|refine below_set ?_ GE438.out|refine below_set ?_ GE453.out|refine below_set ?_ GE460.out|refine below_set ?_ GE468.out)|exact HB.out));(case side2=> exact Kd.R_tight rfl HO_461000.out);rintro e w64 ⟨rfl,hy0,hb,hkp⟩;refine ⟨_,rfl,?_⟩;have n0_:=Aside0.mk (Kd.R_mono (ok':=fun k_=> some k_ ≠ (.slice Ao29 t454.length co29:Value).ownBlock ∧ some k_ ≠ (.slice Ao35 t461.length co35:Value).ownBlock ∧ some k_ ≠ (.slice Ao58 t470.length co58:Value).ownBlock) (Kd.R_keptB (HO_454000.out) hkp (fun k_ hk_ hs_=> (hk_.1.1) hs_)) (fun k_ hk_=> ⟨hk_.1.1.1,hk_.1.1.2,hk_.1.2⟩));have n1_:=Aside0.mk (Kd.R_reok rfl hy0 (fun k_ e_=> HO_461000.out.1 k_ e_));have n2_:=Aside0.mk (Kd.R_mono (ok':=fun k_=> some k_ ≠ (.slice Ao23 t446.length co23:Value).ownBlock ∧ some k_ ≠ (.slice Ao29 t454.length co29:Value).ownBlock ∧ some k_ ≠ (.slice Ao58 t470.length co58:Value).ownBlock) (Kd.R_keptB (HO_469000.out) hkp (fun k_ hk_ hs_=> (hk_.1.2) hs_)) (fun k_ hk_=> ⟨hk_.1.1.1,hk_.1.1.2,hk_.1.2⟩));have n3_:=Aside0.mk (blk_kept (by (with_reducible repeat (first|apply bN|apply bd|apply bA));exact BK438.out) hkp (fun hs_=> (fun e_=> (Kd.R_ne HO_461000.out BK438.out (by decide)) e_) hs_));have n4_:=Aside0.mk (blk_kept (by (with_reducible repeat (first|apply bN|apply bd|apply bA));exact BK453.out) hkp (fun hs_=> (fun e_=> (Kd.R_ne HO_461000.out BK453.out (by decide)) e_) hs_));have n5_:=Aside0.mk (blk_kept (by (with_reducible repeat (first|apply bN|apply bd|apply bA));exact BK460.out) hkp (fun hs_=> (fun e_=> (Kd.R_ne HO_461000.out BK460.out (by decide)) e_) hs_));have n6_:=Aside0.mk (blk_kept (by (with_reducible repeat (first|apply bN|apply bd|apply bA));exact BK468.out) hkp (fun hs_=> (fun e_=> (Kd.R_ne HO_461000.out BK468.out (by decide)) e_) hs_));have n7_:=Aside0.mk (Kd.R_mono (ok':=fun k_=> some k_ ≠ (.slice Ao23 t446.length co23:Value).ownBlock ∧ some k_ ≠ (.slice Ao29 t454.length co29:Value).ownBlock ∧ some k_ ≠ (.slice Ao35 t461.length co35:Value).ownBlock) (Kd.R_keptB (HO472.out) hkp (fun k_ hk_ hs_=> (hk_.1.2) hs_)) (fun k_ hk_=> ⟨hk_.1.1.1.2,hk_.1.1.2,hk_.1.2⟩));have n8_:=Aside0.mk (hb);clear HO_454000;clear HO_461000;clear HO_469000;clear BK438;clear BK453;clear BK460;clear BK468;clear HO472;clear HB;have HO_454000:=n0_;have HO_461000:=n1_;have HO_469000:=n2_;have BK438:=n3_;have BK453:=n4_;have BK460:=n5_;have BK468:=n6_;have HO472:=n7_;have HB:=n8_;clear n0_ n1_ n2_ n3_ n4_ n5_ n6_ n7_ n8_;(try clear hb);(try clear hkp);(try clear hy0)))
              (try simp only [Act.put,List.setIfInBounds_toArray,List.set_cons_zero,List.set_cons_succ])
              go_cut [68] (fun v68 wc=> ∃ (kq:Nat) (x68_54:Bool),v68= .bool x68_54 ∧ Aside0 (laws_FnExactAbsorbText.j1 kq a1 t452 x68_54 l0_0 a0_1 a0_2 a0_3 t446 t449 t450 t451 t461 t464 t465 t466=some r) ∧ Aside0 (kq ≤ kj13) ∧ Aside0 (Kd.R k79 79 wc w.heap.size (fun k_=> some k_ ≠ ((.slice Ao29 t454.length co29):Value).ownBlock ∧ some k_ ≠ ((.slice Ao35 t461.length co35):Value).ownBlock) (.slice Ao23 t446.length co23) t446) ∧ Aside0 (Kd.R k79 79 wc w.heap.size (fun k_=> some k_ ≠ ((.slice Ao23 t446.length co23):Value).ownBlock ∧ some k_ ≠ ((.slice Ao35 t461.length co35):Value).ownBlock) (.slice Ao29 t454.length co29) t478) ∧ Aside0 (Kd.R k79 79 wc w.heap.size (fun k_=> some k_ ≠ ((.slice Ao23 t446.length co23):Value).ownBlock ∧ some k_ ≠ ((.slice Ao29 t454.length co29):Value).ownBlock) (.slice Ao35 t461.length co35) t461) ∧ Aside0 (wc.heap[gb438]?=some (.cells #[(.slice A0_0 l0_0.length c0_0),.int .i64 a0_1,.string a0_2,.int .i64 a0_3] 61 (0,0))) ∧ Aside0 (wc.heap[gb453]?=some (.cells #[(.slice Ao23 t446.length co23),.int .i64 t449,.string t450,.int .i64 t451] 36 (0,0))) ∧ Aside0 (wc.heap[gb460]?=some (.cells #[(.slice Ao29 t454.length co29),.int .i64 t457,.string t458,.int .i64 t459] 36 (0,0))) ∧ Aside0 (wc.heap[gb468]?=some (.cells #[(.slice Ao35 t461.length co35),.int .i64 t464,.string t465,.int .i64 t466] 36 (0,0))) ∧ Aside0 (Below w.heap.size w wc))
              case first=>
                have H:=HC55.out
                clear HC55
                by_cases c65:t477 < 0
                · rw [if_pos c65] at H
                  exact absurd H (by simp)
                · rw [if_neg c65] at H
                  have c65b0:decide (t477 < 0)=false:=decide_eq_false c65
                  clear c65
                  (first|rw [c65b0]|(simp only [i64_w,i32_w];rw [c65b0])|skip)
                  replace H:=Option.bind_eq_some_iff.mp H
                  obtain ⟨t479,A660,H⟩:=H
                  replace H:(if t479=true then (laws_FnExactAbsorbText.j1 kj13 a1 t452 (t467 !=t452) l0_0 a0_1 a0_2 a0_3 t446 t449 t450 t451 t461 t464 t465 t466) else (none))=some r:=H
                  have A66:=Aside0.mk A660
                  clear A660
                  by_cases c67:t479=true
                  · subst c67
                    have H1:(laws_FnExactAbsorbText.j1 kj13 a1 t452 (t467 !=t452) l0_0 a0_1 a0_2 a0_3 t446 t449 t450 t451 t461 t464 t465 t466)=some r:=by rw [if_pos rfl] at H;exact H
                    clear H
                    have H:=H1
                    clear H1
                    have H':=Aside0.mk H
                    clear H
                    have hnb68:=NB468_438.out
                    have hnc68:=NB438_468.out
                    have hnb69:=NB468_453.out
                    have hnc69:=NB453_468.out
                    have hnb70:=NB468_460.out
                    have hnc70:=NB460_468.out
                    have hcz71_0:w64.cell? ⟨gb468,0,none⟩=some (.slice Ao35 t461.length co35):=(blk_cell BK468.out 0).trans rfl
                    have hcz71_1:w64.cell? ⟨gb468,1,none⟩=some (.int .i64 t464):=(blk_cell BK468.out 1).trans rfl
                    have hcz71_2:w64.cell? ⟨gb468,2,none⟩=some (.string t465):=(blk_cell BK468.out 2).trans rfl
                    have hcz71_3:w64.cell? ⟨gb468,3,none⟩=some (.int .i64 t466):=(blk_cell BK468.out 3).trans rfl
                    have hfz71_0:=blk_frozen BK468.out 0
                    have hfz71_1:=blk_frozen BK468.out 1
                    have hfz71_2:=blk_frozen BK468.out 2
                    have hfz71_3:=blk_frozen BK468.out 3
                    have hnb72:=NB453_438.out
                    have hnc72:=NB438_453.out
                    have hnb73:=NB453_460.out
                    have hnc73:=NB460_453.out
                    have hcz74_0:w64.cell? ⟨gb453,0,none⟩=some (.slice Ao23 t446.length co23):=(blk_cell BK453.out 0).trans rfl
                    have hcz74_1:w64.cell? ⟨gb453,1,none⟩=some (.int .i64 t449):=(blk_cell BK453.out 1).trans rfl
                    have hcz74_2:w64.cell? ⟨gb453,2,none⟩=some (.string t450):=(blk_cell BK453.out 2).trans rfl
                    have hcz74_3:w64.cell? ⟨gb453,3,none⟩=some (.int .i64 t451):=(blk_cell BK453.out 3).trans rfl
                    have hfz74_0:=blk_frozen BK453.out 0
                    have hfz74_1:=blk_frozen BK453.out 1
                    have hfz74_2:=blk_frozen BK453.out 2
                    have hfz74_3:=blk_frozen BK453.out 3
                    go_wp2_with (first|(go_at_call 36;(with_reducible refine (laws_eqSource.calls kj13 _ _ t461 t464 t465 t466 _ _ t446 t449 t450 t451 true _ ?side1 ?side2 ?side3 ?side4 A66.out).mono ?_);(case side1=> repeat (first|exact (Kd.R_reads' HO_469000.out).2.2|(with_reducible refine Kd.C_alloc ?_ _)|(with_reducible refine Kd.C_drewN ?_ _)|(with_reducible refine Kd.C_drew ?_)));(case side2=> exact (Kd.R_reads' HO_469000.out).2.1);(case side3=> repeat (first|exact (Kd.R_reads' HO_454000.out).2.2|(with_reducible refine Kd.C_alloc ?_ _)|(with_reducible refine Kd.C_drewN ?_ _)|(with_reducible refine Kd.C_drew ?_)));(case side4=> exact (Kd.R_reads' HO_454000.out).2.1);rintro e w75 ⟨rfl,hb⟩;have n0_:=Aside0.mk (Kd.R_below (by (with_reducible repeat (first|apply Kd.R_alloc|apply Kd.R_drewN|apply Kd.R_drew));exact HO_454000.out) hb);have n1_:=Aside0.mk (Kd.R_below (by (with_reducible repeat (first|apply Kd.R_alloc|apply Kd.R_drewN|apply Kd.R_drew));exact HO_461000.out) hb);have n2_:=Aside0.mk (Kd.R_below (by (with_reducible repeat (first|apply Kd.R_alloc|apply Kd.R_drewN|apply Kd.R_drew));exact HO_469000.out) hb);have n3_:=Aside0.mk (Kd.R_below (by (with_reducible repeat (first|apply Kd.R_alloc|apply Kd.R_drewN|apply Kd.R_drew));exact HO472.out) hb);have n4_:=Aside0.mk (blk_below (g:=gb438) (o:= .cells #[.slice A0_0 l0_0.length c0_0,.int .i64 a0_1,.string a0_2,.int .i64 a0_3] 61 (0,0)) (by (with_reducible repeat (first|apply bN|apply bd|apply bA));exact BK438.out) hb);have n5_:=Aside0.mk (blk_below (g:=gb453) (o:= .cells #[.slice Ao23 t446.length co23,.int .i64 t449,.string t450,.int .i64 t451] 36 (0,0)) (by (with_reducible repeat (first|apply bN|apply bd|apply bA));exact BK453.out) hb);have n6_:=Aside0.mk (blk_below (g:=gb460) (o:= .cells #[.slice Ao29 t454.length co29,.int .i64 t457,.string t458,.int .i64 t459] 36 (0,0)) (by (with_reducible repeat (first|apply bN|apply bd|apply bA));exact BK460.out) hb);have n7_:=Aside0.mk (blk_below (g:=gb468) (o:= .cells #[.slice Ao35 t461.length co35,.int .i64 t464,.string t465,.int .i64 t466] 36 (0,0)) (by (with_reducible repeat (first|apply bN|apply bd|apply bA));exact BK468.out) hb);have n8_:=Aside0.mk (below_step (by repeat (first|(with_reducible first|exact HB.out|apply below_alloc|apply pw_below_drewN|apply below_drew1|refine below_set ?_ GE438.out|refine below_set ?_ GE453.out|refine below_set ?_ GE460.out|refine below_set ?_ GE468.out)|exact HB.out)) hb);clear HO_454000;clear HO_461000;clear HO_469000;clear HO472;clear BK438;clear BK453;clear BK460;clear BK468;clear HB;have HO_454000:=n0_;have HO_461000:=n1_;have HO_469000:=n2_;have HO472:=n3_;have BK438:=n4_;have BK453:=n5_;have BK460:=n6_;have BK468:=n7_;have HB:=n8_;clear n0_ n1_ n2_ n3_ n4_ n5_ n6_ n7_ n8_;(try clear hb);(try clear hb2);(try clear hk);(try clear hi)))
                    go_meet
                    case rel=> exact ⟨_,((t467 !=t452)),(by first|rfl|(simp;done)|(simp [*];done)),H',⟨by have:=HJ13.out;first|omega|exact Nat.le_refl _⟩,⟨by (with_reducible repeat (first|apply Kd.R_alloc|apply Kd.R_drewN|apply Kd.R_drew));exact Kd.R_mono HO_454000.out (fun _ hk=> ⟨hk.1,hk.2.1⟩)⟩,⟨by (with_reducible repeat (first|apply Kd.R_alloc|apply Kd.R_drewN|apply Kd.R_drew));exact Kd.R_mono HO_461000.out (fun _ hk=> ⟨hk.1.1,hk.1.2⟩)⟩,⟨by (with_reducible repeat (first|apply Kd.R_alloc|apply Kd.R_drewN|apply Kd.R_drew));exact Kd.R_mono HO_469000.out (fun _ hk=> ⟨hk.1,hk.2.1⟩)⟩,⟨by (with_reducible repeat (first|apply bN|apply bd|apply bA));exact BK438.out⟩,⟨by (with_reducible repeat (first|apply bN|apply bd|apply bA));exact BK453.out⟩,⟨by (with_reducible repeat (first|apply bN|apply bd|apply bA));exact BK460.out⟩,⟨by (with_reducible repeat (first|apply bN|apply bd|apply bA));exact BK468.out⟩,⟨by repeat (first|(with_reducible first|exact HB.out|apply below_alloc|apply pw_below_drewN|apply below_drew1|refine below_set ?_ GE438.out|refine below_set ?_ GE453.out|refine below_set ?_ GE460.out|refine below_set ?_ GE468.out)|exact HB.out)⟩⟩
                  · replace c67:=Bool.eq_false_iff.mpr c67
                    subst c67
                    have H1:(none)=some r:=by rw [if_neg (show ¬ (false=true) by decide)] at H;exact H
                    clear H
                    have H:=H1
                    clear H1
                    exact absurd H (by simp)
              case rest=>
                clear HC55
                try clear c1
                try clear c2
                try clear p2
                try clear c3
                try clear c3b0
                try clear c3b1
                try clear c4
                try clear c5
                try clear c6
                try clear c6b0
                try clear c7
                try clear c16
                try clear c24
                try clear c30
                try clear c31
                try clear c36
                try clear c37
                try clear c38
                try clear c41
                try clear c42
                try clear c43
                try clear c44
                try clear c46
                try clear c47
                try clear c50
                try clear c53
                try clear c55
                try clear c60
                try clear c61
                try clear c62
                try clear c65
                try clear c65b0
                try clear c66
                try clear c67
                try clear c68
                try clear c69
                try clear c70
                try clear c72
                try clear c73
                try clear hcz16_0
                try clear hcz16_1
                try clear hcz16_2
                try clear hcz16_3
                try clear hcz18_0
                try clear hcz18_1
                try clear hcz18_2
                try clear hcz18_3
                try clear hcz25_0
                try clear hcz25_1
                try clear hcz25_2
                try clear hcz25_3
                try clear hcz26_0
                try clear hcz26_1
                try clear hcz26_2
                try clear hcz26_3
                try clear hcz32_0
                try clear hcz32_1
                try clear hcz32_2
                try clear hcz32_3
                try clear hcz39_0
                try clear hcz39_1
                try clear hcz39_2
                try clear hcz39_3
                try clear hcz45_0
                try clear hcz45_1
                try clear hcz45_2
                try clear hcz45_3
                try clear hcz48_0
                try clear hcz48_1
                try clear hcz48_2
                try clear hcz48_3
                try clear hcz63_0
                try clear hcz63_1
                try clear hcz63_2
                try clear hcz63_3
                try clear hcz71_0
                try clear hcz71_1
                try clear hcz71_2
                try clear hcz71_3
                try clear hcz74_0
                try clear hcz74_1
                try clear hcz74_2
                try clear hcz74_3
                try clear hcz8_0
                try clear hcz8_1
                try clear hcz8_2
                try clear hcz8_3
                try clear hfz16_0
                try clear hfz16_1
                try clear hfz16_2
                try clear hfz16_3
                try clear hfz18_0
                try clear hfz18_1
                try clear hfz18_2
                try clear hfz18_3
                try clear hfz25_0
                try clear hfz25_1
                try clear hfz25_2
                try clear hfz25_3
                try clear hfz26_0
                try clear hfz26_1
                try clear hfz26_2
                try clear hfz26_3
                try clear hfz32_0
                try clear hfz32_1
                try clear hfz32_2
                try clear hfz32_3
                try clear hfz39_0
                try clear hfz39_1
                try clear hfz39_2
                try clear hfz39_3
                try clear hfz45_0
                try clear hfz45_1
                try clear hfz45_2
                try clear hfz45_3
                try clear hfz48_0
                try clear hfz48_1
                try clear hfz48_2
                try clear hfz48_3
                try clear hfz63_0
                try clear hfz63_1
                try clear hfz63_2
                try clear hfz63_3
                try clear hfz71_0
                try clear hfz71_1
                try clear hfz71_2
                try clear hfz71_3
                try clear hfz74_0
                try clear hfz74_1
                try clear hfz74_2
                try clear hfz74_3
                try clear hfz8_0
                try clear hfz8_1
                try clear hfz8_2
                try clear hfz8_3
                try clear p2
                obtain ⟨kq,x68_54,rfl,HA,HJ54,HO_454000,HO_461000,HO_469000,BK438,BK453,BK460,BK468,HB⟩:=hcut
                have hl461000_54:=(Kd.R_reads' HO_461000.out).1
                rw [hl461000_54] at HO_461000
                (try simp only [hl461000_54])
                (try simp only [hl461000_54] at BK438)
                (try simp only [hl461000_54] at BK453)
                (try simp only [hl461000_54] at BK460)
                (try simp only [hl461000_54] at BK468)
                (try simp only [hl461000_54] at HO_454000)
                (try simp only [hl461000_54] at HO_469000)
                cases kq with
                |zero=> exact absurd HA.out (by simp [laws_FnExactAbsorbText.j1])
                |succ kj54=>
                  have H:=HA.out
                  clear HA
                  simp only [laws_FnExactAbsorbText.j1] at H
                  by_cases c76:x68_54=true
                  · subst c76
                    have H1:(none)=some r:=by rw [if_pos rfl] at H;exact H
                    clear H
                    have H:=H1
                    clear H1
                    exact absurd H (by simp)
                  · replace c76:=Bool.eq_false_iff.mpr c76
                    subst c76
                    have H1:((laws_markSource.f kj54 t461 t464 t465 t466 1).bind fun bt480=> ((laws_heldSource.f kj54 bt480.2 t464 t465 t466 1).bind fun t482=> (if t482 < 0 then (none) else (if t482=bt480.1 then ((laws_toSource.f kj54 l0_0 a0_1 a0_2 a0_3).bind fun bt483=> ((impl_AbsorbText.f bt483.1 bt483.2.1 bt483.2.2.1 bt483.2.2.2 a1).bind fun bt489=> ((laws_eqSource.f kj54 bt489.1 bt489.2.1 bt489.2.2.1 bt489.2.2.2.1 t446 t449 t450 t451).bind fun t497=> (if t497=true then (laws_FnExactAbsorbText.j2 kj54 bt480.1 (bt489.2.2.2.2 !=t452) bt480.2 t464 t465 t466) else (none))))) else (none)))))=some r:=by rw [if_neg (show ¬ (false=true) by decide)] at H;exact H
                    clear H
                    have H:=H1
                    clear H1
                    replace H:=Option.bind_eq_some_iff.mp H
                    obtain ⟨⟨t480,t481⟩,A770,H⟩:=H
                    replace H:((laws_heldSource.f kj54 t481 t464 t465 t466 1).bind fun t482=> (if t482 < 0 then (none) else (if t482=t480 then ((laws_toSource.f kj54 l0_0 a0_1 a0_2 a0_3).bind fun bt483=> ((impl_AbsorbText.f bt483.1 bt483.2.1 bt483.2.2.1 bt483.2.2.2 a1).bind fun bt489=> ((laws_eqSource.f kj54 bt489.1 bt489.2.1 bt489.2.2.1 bt489.2.2.2.1 t446 t449 t450 t451).bind fun t497=> (if t497=true then (laws_FnExactAbsorbText.j2 kj54 t480 (bt489.2.2.2.2 !=t452) t481 t464 t465 t466) else (none))))) else (none))))=some r:=H
                    have A77:=Aside0.mk A770
                    clear A770
                    replace H:=Option.bind_eq_some_iff.mp H
                    obtain ⟨t482,A780,H⟩:=H
                    replace H:(if t482 < 0 then (none) else (if t482=t480 then ((laws_toSource.f kj54 l0_0 a0_1 a0_2 a0_3).bind fun bt483=> ((impl_AbsorbText.f bt483.1 bt483.2.1 bt483.2.2.1 bt483.2.2.2 a1).bind fun bt489=> ((laws_eqSource.f kj54 bt489.1 bt489.2.1 bt489.2.2.1 bt489.2.2.2.1 t446 t449 t450 t451).bind fun t497=> (if t497=true then (laws_FnExactAbsorbText.j2 kj54 t480 (bt489.2.2.2.2 !=t452) t481 t464 t465 t466) else (none))))) else (none)))=some r:=H
                    have A78:=Aside0.mk A780
                    clear A780
                    by_cases c79:t482 < 0
                    · rw [if_pos c79] at H
                      exact absurd H (by simp)
                    · rw [if_neg c79] at H
                      have c79b0:decide (t482 < 0)=false:=decide_eq_false c79
                      clear c79
                      by_cases c80:t482=t480
                      · rw [if_pos c80] at H
                        have c80b0:(t482==t480)=true:=beq_iff_eq.mpr c80
                        have c80b1:(t482 !=t480)=false:=bne_eq_false_iff_eq.mpr c80
                        clear c80
                        replace H:=Option.bind_eq_some_iff.mp H
                        obtain ⟨⟨t483,t486,t487,t488⟩,A810,H⟩:=H
                        replace H:((impl_AbsorbText.f t483 t486 t487 t488 a1).bind fun bt489=> ((laws_eqSource.f kj54 bt489.1 bt489.2.1 bt489.2.2.1 bt489.2.2.2.1 t446 t449 t450 t451).bind fun t497=> (if t497=true then (laws_FnExactAbsorbText.j2 kj54 t480 (bt489.2.2.2.2 !=t452) t481 t464 t465 t466) else (none))))=some r:=H
                        have A81:=Aside0.mk A810
                        clear A810
                        replace H:=Option.bind_eq_some_iff.mp H
                        obtain ⟨⟨t489,t492,t493,t494,t495⟩,A820,H⟩:=H
                        replace H:((laws_eqSource.f kj54 t489 t492 t493 t494 t446 t449 t450 t451).bind fun t497=> (if t497=true then (laws_FnExactAbsorbText.j2 kj54 t480 (t495 !=t452) t481 t464 t465 t466) else (none)))=some r:=H
                        have A82:=Aside0.mk A820
                        clear A820
                        have HC83:=Aside0.mk H
                        clear H
                        have hnb84:=NB468_438.out
                        have hnc84:=NB438_468.out
                        have hnb85:=NB468_453.out
                        have hnc85:=NB453_468.out
                        have hnb86:=NB468_460.out
                        have hnc86:=NB460_468.out
                        have hcz87_0:wc.cell? ⟨gb468,0,none⟩=some (.slice Ao35 t461.length co35):=(blk_cell BK468.out 0).trans rfl
                        have hcz87_1:wc.cell? ⟨gb468,1,none⟩=some (.int .i64 t464):=(blk_cell BK468.out 1).trans rfl
                        have hcz87_2:wc.cell? ⟨gb468,2,none⟩=some (.string t465):=(blk_cell BK468.out 2).trans rfl
                        have hcz87_3:wc.cell? ⟨gb468,3,none⟩=some (.int .i64 t466):=(blk_cell BK468.out 3).trans rfl
                        have hfz87_0:=blk_frozen BK468.out 0
                        have hfz87_1:=blk_frozen BK468.out 1
                        have hfz87_2:=blk_frozen BK468.out 2
                        have hfz87_3:=blk_frozen BK468.out 3
                        go_upto_region 27 with (first|((with_reducible refine gate_callee (f:=37) rfl ?_);refine goesL_ (some 71) rfl rfl Try.func37 (by kernel_rfl) rfl #[.agg #[.slice Ao35 t461.length co35,.int .i64 t464,.string t465,.int .i64 t466],.int .i64 1] rfl (by (try simp only [List.map_toArray,List.map_cons,List.map_nil]);first|done|rfl|(simp only [List.length_drop,List.length_take];rfl)) ?_;(with_reducible refine (laws_markSource.calls kj54 (fun k_=> some k_=(.slice Ao35 t461.length co35:Value).ownBlock) (.slice Ao35 t461.length co35) t461 t464 t465 t466 1 t480 t481 w _ ?side1 ?side2 A77.out).mono ?_);(case side1=> repeat (first|(with_reducible first|exact HB.out|apply below_alloc|apply pw_below_drewN|apply below_drew1|refine below_set ?_ GE438.out|refine below_set ?_ GE453.out|refine below_set ?_ GE460.out|refine below_set ?_ GE468.out)|exact HB.out));(case side2=> exact Kd.R_tight rfl HO_469000.out);rintro e w88 ⟨rfl,hy0,hb,hkp⟩;refine ⟨_,rfl,?_⟩;have n0_:=Aside0.mk (Kd.R_mono (ok':=fun k_=> some k_ ≠ (.slice Ao29 t478.length co29:Value).ownBlock ∧ some k_ ≠ (.slice Ao35 t461.length co35:Value).ownBlock) (Kd.R_keptB (HO_454000.out) hkp (fun k_ hk_ hs_=> (hk_.2) hs_)) (fun k_ hk_=> ⟨hk_.1.1,hk_.1.2⟩));have n1_:=Aside0.mk (Kd.R_mono (ok':=fun k_=> some k_ ≠ (.slice Ao23 t446.length co23:Value).ownBlock ∧ some k_ ≠ (.slice Ao35 t461.length co35:Value).ownBlock) (Kd.R_keptB (HO_461000.out) hkp (fun k_ hk_ hs_=> (hk_.2) hs_)) (fun k_ hk_=> ⟨hk_.1.1,hk_.1.2⟩));have n2_:=Aside0.mk (Kd.R_reok rfl hy0 (fun k_ e_=> HO_469000.out.1 k_ e_));have n3_:=Aside0.mk (blk_kept (by (with_reducible repeat (first|apply bN|apply bd|apply bA));exact BK438.out) hkp (fun hs_=> (fun e_=> (Kd.R_ne HO_469000.out BK438.out (by decide)) e_) hs_));have n4_:=Aside0.mk (blk_kept (by (with_reducible repeat (first|apply bN|apply bd|apply bA));exact BK453.out) hkp (fun hs_=> (fun e_=> (Kd.R_ne HO_469000.out BK453.out (by decide)) e_) hs_));have n5_:=Aside0.mk (blk_kept (by (with_reducible repeat (first|apply bN|apply bd|apply bA));exact BK460.out) hkp (fun hs_=> (fun e_=> (Kd.R_ne HO_469000.out BK460.out (by decide)) e_) hs_));have n6_:=Aside0.mk (blk_kept (by (with_reducible repeat (first|apply bN|apply bd|apply bA));exact BK468.out) hkp (fun hs_=> (fun e_=> (Kd.R_ne HO_469000.out BK468.out (by decide)) e_) hs_));have n7_:=Aside0.mk (hb);clear HO_454000;clear HO_461000;clear HO_469000;clear BK438;clear BK453;clear BK460;clear BK468;clear HB;have HO_454000:=n0_;have HO_461000:=n1_;have HO_469000:=n2_;have BK438:=n3_;have BK453:=n4_;have BK460:=n5_;have BK468:=n6_;have HB:=n7_;clear n0_ n1_ n2_ n3_ n4_ n5_ n6_ n7_;(try clear hb);(try clear hkp);(try clear hy0);have hcz89_0:w88.cell? ⟨gb468,0,none⟩=some (.slice Ao35 t461.length co35):=(blk_cell BK468.out 0).trans rfl;have hcz89_1:w88.cell? ⟨gb468,1,none⟩=some (.int .i64 t464):=(blk_cell BK468.out 1).trans rfl;have hcz89_2:w88.cell? ⟨gb468,2,none⟩=some (.string t465):=(blk_cell BK468.out 2).trans rfl;have hcz89_3:w88.cell? ⟨gb468,3,none⟩=some (.int .i64 t466):=(blk_cell BK468.out 3).trans rfl;have hfz89_0:=blk_frozen BK468.out 0;have hfz89_1:=blk_frozen BK468.out 1;have hfz89_2:=blk_frozen BK468.out 2;have hfz89_3:=blk_frozen BK468.out 3)|((with_reducible refine gate_callee (f:=38) rfl ?_);refine goesL_ (some 74) rfl rfl Try.func38 (by kernel_rfl) rfl #[.agg #[.slice Ao35 t481.length co35,.int .i64 t464,.string t465,.int .i64 t466],.int .i64 1] rfl (by (try simp only [List.map_toArray,List.map_cons,List.map_nil]);first|done|(rw [show t481.length=t461.length from (Kd.R_reads' HO_469000.out).1.symm] <;> rfl)|rfl|(simp only [List.length_drop,List.length_take];rfl)) ?_;(with_reducible refine (laws_heldSource.calls kj54 _ _ t481 t464 t465 t466 1 t482 _ ?side1 ?side2 A78.out).mono ?_);(case side1=> repeat (first|exact (Kd.R_reads' HO_469000.out).2.2|(with_reducible refine Kd.C_alloc ?_ _)|(with_reducible refine Kd.C_drewN ?_ _)|(with_reducible refine Kd.C_drew ?_)));(case side2=> rw [show t481.length=t461.length from (Kd.R_reads' HO_469000.out).1.symm];exact (Kd.R_reads' HO_469000.out).2.1);rintro e w90 ⟨rfl,hb⟩;refine ⟨_,rfl,?_⟩;have n0_:=Aside0.mk (Kd.R_below (by (with_reducible repeat (first|apply Kd.R_alloc|apply Kd.R_drewN|apply Kd.R_drew));exact HO_454000.out) hb);have n1_:=Aside0.mk (Kd.R_below (by (with_reducible repeat (first|apply Kd.R_alloc|apply Kd.R_drewN|apply Kd.R_drew));exact HO_461000.out) hb);have n2_:=Aside0.mk (Kd.R_below (by (with_reducible repeat (first|apply Kd.R_alloc|apply Kd.R_drewN|apply Kd.R_drew));exact HO_469000.out) hb);have n3_:=Aside0.mk (blk_below (g:=gb438) (o:= .cells #[.slice A0_0 l0_0.length c0_0,.int .i64 a0_1,.string a0_2,.int .i64 a0_3] 61 (0,0)) (by (with_reducible repeat (first|apply bN|apply bd|apply bA));exact BK438.out) hb);have n4_:=Aside0.mk (blk_below (g:=gb453) (o:= .cells #[.slice Ao23 t446.length co23,.int .i64 t449,.string t450,.int .i64 t451] 36 (0,0)) (by (with_reducible repeat (first|apply bN|apply bd|apply bA));exact BK453.out) hb);have n5_:=Aside0.mk (blk_below (g:=gb460) (o:= .cells #[.slice Ao29 t478.length co29,.int .i64 t457,.string t458,.int .i64 t459] 36 (0,0)) (by (with_reducible repeat (first|apply bN|apply bd|apply bA));exact BK460.out) hb);have n6_:=Aside0.mk (blk_below (g:=gb468) (o:= .cells #[.slice Ao35 t461.length co35,.int .i64 t464,.string t465,.int .i64 t466] 36 (0,0)) (by (with_reducible repeat (first|apply bN|apply bd|apply bA));exact BK468.out) hb);have n7_:=Aside0.mk (below_step (by repeat (first|(with_reducible first|exact HB.out|apply below_alloc|apply pw_below_drewN|apply below_drew1|refine below_set ?_ GE438.out|refine below_set ?_ GE453.out|refine below_set ?_ GE460.out|refine below_set ?_ GE468.out)|exact HB.out)) hb);clear HO_454000;clear HO_461000;clear HO_469000;clear BK438;clear BK453;clear BK460;clear BK468;clear HB;have HO_454000:=n0_;have HO_461000:=n1_;have HO_469000:=n2_;have BK438:=n3_;have BK453:=n4_;have BK460:=n5_;have BK468:=n6_;have HB:=n7_;clear n0_ n1_ n2_ n3_ n4_ n5_ n6_ n7_;(try clear hb);(try clear hb2);(try clear hk);(try clear hi);have hnb91:=NB438_453.out;have hnc91:=NB453_438.out;have hnb92:=NB438_460.out;have hnc92:=NB460_438.out;have hcz93_0:w90.cell? ⟨gb438,0,none⟩=some (.slice A0_0 l0_0.length c0_0):=(blk_cell BK438.out 0).trans rfl;have hcz93_1:w90.cell? ⟨gb438,1,none⟩=some (.int .i64 a0_1):=(blk_cell BK438.out 1).trans rfl;have hcz93_2:w90.cell? ⟨gb438,2,none⟩=some (.string a0_2):=(blk_cell BK438.out 2).trans rfl;have hcz93_3:w90.cell? ⟨gb438,3,none⟩=some (.int .i64 a0_3):=(blk_cell BK438.out 3).trans rfl;have hfz93_0:=blk_frozen BK438.out 0;have hfz93_1:=blk_frozen BK438.out 1;have hfz93_2:=blk_frozen BK438.out 2;have hfz93_3:=blk_frozen BK438.out 3)|((with_reducible refine gate_callee (f:=55) rfl ?_);refine goesL_ (some 82) rfl rfl Try.func55 (by kernel_rfl) rfl #[.agg #[.slice A0_0 l0_0.length c0_0,.int .i64 a0_1,.string a0_2,.int .i64 a0_3]] rfl (by (try simp only [List.map_toArray,List.map_cons,List.map_nil]);first|done|rfl|(simp only [List.length_drop,List.length_take];rfl)) ?_;(with_reducible refine (laws_toSource.calls kj54 _ _ l0_0 a0_1 a0_2 a0_3 t483 t486 t487 t488 _ ?side1 ?side2 A81.out).mono ?_);(case side1=> repeat (first|exact (Kd.C_below HR0_0.out HB.out)|(with_reducible refine Kd.C_alloc ?_ _)|(with_reducible refine Kd.C_drewN ?_ _)|(with_reducible refine Kd.C_drew ?_)));(case side2=> exact HC0_0.out);rintro e w94 ⟨v484,rfl,ho0,hb⟩;refine ⟨_,rfl,?_⟩;have n0_:=Aside0.mk (Kd.R_elder' (by (with_reducible repeat (first|apply Kd.R_alloc|apply Kd.R_drewN|apply Kd.R_drew));exact HO_454000.out) (Kd.R_base ho0) hb);have n1_:=Aside0.mk (Kd.R_elder' (by (with_reducible repeat (first|apply Kd.R_alloc|apply Kd.R_drewN|apply Kd.R_drew));exact HO_461000.out) (Kd.R_base ho0) hb);have n2_:=Aside0.mk (Kd.R_elder' (by (with_reducible repeat (first|apply Kd.R_alloc|apply Kd.R_drewN|apply Kd.R_drew));exact HO_469000.out) (Kd.R_base ho0) hb);have n3_:=Aside0.mk (Kd.R_lower (Kd.R_new' (Kd.R_new' (Kd.R_new' ho0 (Kd.R_lt (by (with_reducible repeat (first|apply Kd.R_alloc|apply Kd.R_drewN|apply Kd.R_drew));exact HO_454000.out))) (Kd.R_lt (by (with_reducible repeat (first|apply Kd.R_alloc|apply Kd.R_drewN|apply Kd.R_drew));exact HO_461000.out))) (Kd.R_lt (by (with_reducible repeat (first|apply Kd.R_alloc|apply Kd.R_drewN|apply Kd.R_drew));exact HO_469000.out))) (below_size (by repeat (first|(with_reducible first|exact HB.out|apply below_alloc|apply pw_below_drewN|apply below_drew1|refine below_set ?_ GE438.out|refine below_set ?_ GE453.out|refine below_set ?_ GE460.out|refine below_set ?_ GE468.out)|exact HB.out))));have n4_:=Aside0.mk (blk_below (g:=gb438) (o:= .cells #[.slice A0_0 l0_0.length c0_0,.int .i64 a0_1,.string a0_2,.int .i64 a0_3] 61 (0,0)) (by (with_reducible repeat (first|apply bN|apply bd|apply bA));exact BK438.out) hb);have n5_:=Aside0.mk (blk_below (g:=gb453) (o:= .cells #[.slice Ao23 t446.length co23,.int .i64 t449,.string t450,.int .i64 t451] 36 (0,0)) (by (with_reducible repeat (first|apply bN|apply bd|apply bA));exact BK453.out) hb);have n6_:=Aside0.mk (blk_below (g:=gb460) (o:= .cells #[.slice Ao29 t478.length co29,.int .i64 t457,.string t458,.int .i64 t459] 36 (0,0)) (by (with_reducible repeat (first|apply bN|apply bd|apply bA));exact BK460.out) hb);have n7_:=Aside0.mk (blk_below (g:=gb468) (o:= .cells #[.slice Ao35 t461.length co35,.int .i64 t464,.string t465,.int .i64 t466] 36 (0,0)) (by (with_reducible repeat (first|apply bN|apply bd|apply bA));exact BK468.out) hb);have n8_:=Aside0.mk (below_step (by repeat (first|(with_reducible first|exact HB.out|apply below_alloc|apply pw_below_drewN|apply below_drew1|refine below_set ?_ GE438.out|refine below_set ?_ GE453.out|refine below_set ?_ GE460.out|refine below_set ?_ GE468.out)|exact HB.out)) hb);clear HO_454000;clear HO_461000;clear HO_469000;clear BK438;clear BK453;clear BK460;clear BK468;clear HB;have HO_454000:=n0_;have HO_461000:=n1_;have HO_469000:=n2_;have HO485:=n3_;have BK438:=n4_;have BK453:=n5_;have BK460:=n6_;have BK468:=n7_;have HB:=n8_;clear n0_ n1_ n2_ n3_ n4_ n5_ n6_ n7_ n8_;(try clear hb);(try clear hb2);(try clear hk);(try clear hi);(try clear ho0);obtain ⟨Ao95,co95,eo95⟩:=Kd.R_slice HO485.out;subst eo95)|((with_reducible refine gate_callee (f:=66) rfl ?_);refine goesL_ (some 84) rfl rfl Try.func66 (by kernel_rfl) rfl #[.agg #[.slice Ao95 t483.length co95,.int .i64 t486,.string t487,.int .i64 t488],.string a1] rfl (by (try simp only [List.map_toArray,List.map_cons,List.map_nil]);first|done|rfl|(simp only [List.length_drop,List.length_take];rfl)) ?_;(with_reducible refine (impl_AbsorbText.calls _ _ t483 t486 t487 t488 a1 t489 t492 t493 t494 t495 _ ?side1 ?side2 A82.out).mono ?_);(case side1=> repeat (first|exact (Kd.R_reads' HO485.out).2.2|(with_reducible refine Kd.C_alloc ?_ _)|(with_reducible refine Kd.C_drewN ?_ _)|(with_reducible refine Kd.C_drew ?_)));(case side2=> exact (Kd.R_reads' HO485.out).2.1);rintro e w96 ⟨v490,rfl,ho0,hb⟩;refine ⟨_,rfl,?_⟩;have n0_:=Aside0.mk (Kd.R_elder' (by (with_reducible repeat (first|apply Kd.R_alloc|apply Kd.R_drewN|apply Kd.R_drew));exact HO_454000.out) (Kd.R_base ho0) hb);have n1_:=Aside0.mk (Kd.R_elder' (by (with_reducible repeat (first|apply Kd.R_alloc|apply Kd.R_drewN|apply Kd.R_drew));exact HO_461000.out) (Kd.R_base ho0) hb);have n2_:=Aside0.mk (Kd.R_elder' (by (with_reducible repeat (first|apply Kd.R_alloc|apply Kd.R_drewN|apply Kd.R_drew));exact HO_469000.out) (Kd.R_base ho0) hb);have n3_:=Aside0.mk (Kd.R_elder' (by (with_reducible repeat (first|apply Kd.R_alloc|apply Kd.R_drewN|apply Kd.R_drew));exact HO485.out) (Kd.R_base ho0) hb);have n4_:=Aside0.mk (Kd.R_lower (Kd.R_new' (Kd.R_new' (Kd.R_new' (Kd.R_new' ho0 (Kd.R_lt (by (with_reducible repeat (first|apply Kd.R_alloc|apply Kd.R_drewN|apply Kd.R_drew));exact HO_454000.out))) (Kd.R_lt (by (with_reducible repeat (first|apply Kd.R_alloc|apply Kd.R_drewN|apply Kd.R_drew));exact HO_461000.out))) (Kd.R_lt (by (with_reducible repeat (first|apply Kd.R_alloc|apply Kd.R_drewN|apply Kd.R_drew));exact HO_469000.out))) (Kd.R_lt (by (with_reducible repeat (first|apply Kd.R_alloc|apply Kd.R_drewN|apply Kd.R_drew));exact HO485.out))) (below_size (by repeat (first|(with_reducible first|exact HB.out|apply below_alloc|apply pw_below_drewN|apply below_drew1|refine below_set ?_ GE438.out|refine below_set ?_ GE453.out|refine below_set ?_ GE460.out|refine below_set ?_ GE468.out)|exact HB.out))));have n5_:=Aside0.mk (blk_below (g:=gb438) (o:= .cells #[.slice A0_0 l0_0.length c0_0,.int .i64 a0_1,.string a0_2,.int .i64 a0_3] 61 (0,0)) (by (with_reducible repeat (first|apply bN|apply bd|apply bA));exact BK438.out) hb);have n6_:=Aside0.mk (blk_below (g:=gb453) (o:= .cells #[.slice Ao23 t446.length co23,.int .i64 t449,.string t450,.int .i64 t451] 36 (0,0)) (by (with_reducible repeat (first|apply bN|apply bd|apply bA));exact BK453.out) hb);have n7_:=Aside0.mk (blk_below (g:=gb460) (o:= .cells #[.slice Ao29 t478.length co29,.int .i64 t457,.string t458,.int .i64 t459] 36 (0,0)) (by (with_reducible repeat (first|apply bN|apply bd|apply bA));exact BK460.out) hb);have n8_:=Aside0.mk (blk_below (g:=gb468) (o:= .cells #[.slice Ao35 t461.length co35,.int .i64 t464,.string t465,.int .i64 t466] 36 (0,0)) (by (with_reducible repeat (first|apply bN|apply bd|apply bA));exact BK468.out) hb);have n9_:=Aside0.mk (below_step (by repeat (first|(with_reducible first|exact HB.out|apply below_alloc|apply pw_below_drewN|apply below_drew1|refine below_set ?_ GE438.out|refine below_set ?_ GE453.out|refine below_set ?_ GE460.out|refine below_set ?_ GE468.out)|exact HB.out)) hb);clear HO_454000;clear HO_461000;clear HO_469000;clear HO485;clear BK438;clear BK453;clear BK460;clear BK468;clear HB;have HO_454000:=n0_;have HO_461000:=n1_;have HO_469000:=n2_;have HO485:=n3_;have HO491:=n4_;have BK438:=n5_;have BK453:=n6_;have BK460:=n7_;have BK468:=n8_;have HB:=n9_;clear n0_ n1_ n2_ n3_ n4_ n5_ n6_ n7_ n8_ n9_;(try clear hb);(try clear hb2);(try clear hk);(try clear hi);(try clear ho0))|((with_reducible refine gate_dst (N:=14) rfl ?_);refine box_event ?hg (N:=14) ?hd (cs:= #[.slice none 0 0,.int .i64 0,.string (⟨#[]⟩:ByteArray),.int .i64 0]) (t:=36) ?hr ?_;(case hd=> rfl);(case hg=> rfl);(case hr=> first|(go_simp;done)|(go_simp;rfl));intro gb496 hg w97 hbox hb;have n0_:=Aside0.mk (Kd.R_below (by (with_reducible repeat (first|apply Kd.R_alloc|apply Kd.R_drewN|apply Kd.R_drew));exact HO_454000.out) hb);have n1_:=Aside0.mk (Kd.R_below (by (with_reducible repeat (first|apply Kd.R_alloc|apply Kd.R_drewN|apply Kd.R_drew));exact HO_461000.out) hb);have n2_:=Aside0.mk (Kd.R_below (by (with_reducible repeat (first|apply Kd.R_alloc|apply Kd.R_drewN|apply Kd.R_drew));exact HO_469000.out) hb);have n3_:=Aside0.mk (Kd.R_below (by (with_reducible repeat (first|apply Kd.R_alloc|apply Kd.R_drewN|apply Kd.R_drew));exact HO485.out) hb);have n4_:=Aside0.mk (Kd.R_below (by (with_reducible repeat (first|apply Kd.R_alloc|apply Kd.R_drewN|apply Kd.R_drew));exact HO491.out) hb);have n5_:=Aside0.mk (blk_below (g:=gb438) (o:= .cells #[.slice A0_0 l0_0.length c0_0,.int .i64 a0_1,.string a0_2,.int .i64 a0_3] 61 (0,0)) (by (with_reducible repeat (first|apply bN|apply bd|apply bA));exact BK438.out) hb);have n6_:=Aside0.mk (blk_below (g:=gb453) (o:= .cells #[.slice Ao23 t446.length co23,.int .i64 t449,.string t450,.int .i64 t451] 36 (0,0)) (by (with_reducible repeat (first|apply bN|apply bd|apply bA));exact BK453.out) hb);have n7_:=Aside0.mk (blk_below (g:=gb460) (o:= .cells #[.slice Ao29 t478.length co29,.int .i64 t457,.string t458,.int .i64 t459] 36 (0,0)) (by (with_reducible repeat (first|apply bN|apply bd|apply bA));exact BK460.out) hb);have n8_:=Aside0.mk (blk_below (g:=gb468) (o:= .cells #[.slice Ao35 t461.length co35,.int .i64 t464,.string t465,.int .i64 t466] 36 (0,0)) (by (with_reducible repeat (first|apply bN|apply bd|apply bA));exact BK468.out) hb);have n9_:=Aside0.mk (below_step (by repeat (first|(with_reducible first|exact HB.out|apply below_alloc|apply pw_below_drewN|apply below_drew1|refine below_set ?_ GE438.out|refine below_set ?_ GE453.out|refine below_set ?_ GE460.out|refine below_set ?_ GE468.out)|exact HB.out)) hb);have n10_:=Aside0.mk (hbox);have n11_:=Aside0.mk ((by rw [hg];exact (below_size (by repeat (first|(with_reducible first|exact HB.out|apply below_alloc|apply pw_below_drewN|apply below_drew1|refine below_set ?_ GE438.out|refine below_set ?_ GE453.out|refine below_set ?_ GE460.out|refine below_set ?_ GE468.out)|exact HB.out))):w.heap.size ≤ gb496));have n12_:=Aside0.mk ((by rw [hg];exact (below_size (by repeat (first|(with_reducible first|exact HB.out|apply below_alloc|apply pw_below_drewN|apply below_drew1|refine below_set ?_ GE438.out|refine below_set ?_ GE453.out|refine below_set ?_ GE460.out|refine below_set ?_ GE468.out)|exact HB.out))):w.heap.size ≤ gb496));have n13_:=Aside0.mk ((by rw [hg];exact Nat.ne_of_lt (blk_lt (g:=gb438) (o:= .cells #[.slice A0_0 l0_0.length c0_0,.int .i64 a0_1,.string a0_2,.int .i64 a0_3] 61 (0,0)) (by (with_reducible repeat (first|apply bN|apply bd|apply bA));exact BK438.out)):gb438 ≠ gb496));have n14_:=Aside0.mk ((by rw [hg];exact Nat.ne_of_gt (blk_lt (g:=gb438) (o:= .cells #[.slice A0_0 l0_0.length c0_0,.int .i64 a0_1,.string a0_2,.int .i64 a0_3] 61 (0,0)) (by (with_reducible repeat (first|apply bN|apply bd|apply bA));exact BK438.out)):gb496 ≠ gb438));have n15_:=Aside0.mk ((by rw [hg];exact Nat.ne_of_lt (blk_lt (g:=gb453) (o:= .cells #[.slice Ao23 t446.length co23,.int .i64 t449,.string t450,.int .i64 t451] 36 (0,0)) (by (with_reducible repeat (first|apply bN|apply bd|apply bA));exact BK453.out)):gb453 ≠ gb496));have n16_:=Aside0.mk ((by rw [hg];exact Nat.ne_of_gt (blk_lt (g:=gb453) (o:= .cells #[.slice Ao23 t446.length co23,.int .i64 t449,.string t450,.int .i64 t451] 36 (0,0)) (by (with_reducible repeat (first|apply bN|apply bd|apply bA));exact BK453.out)):gb496 ≠ gb453));have n17_:=Aside0.mk ((by rw [hg];exact Nat.ne_of_lt (blk_lt (g:=gb460) (o:= .cells #[.slice Ao29 t478.length co29,.int .i64 t457,.string t458,.int .i64 t459] 36 (0,0)) (by (with_reducible repeat (first|apply bN|apply bd|apply bA));exact BK460.out)):gb460 ≠ gb496));have n18_:=Aside0.mk ((by rw [hg];exact Nat.ne_of_gt (blk_lt (g:=gb460) (o:= .cells #[.slice Ao29 t478.length co29,.int .i64 t457,.string t458,.int .i64 t459] 36 (0,0)) (by (with_reducible repeat (first|apply bN|apply bd|apply bA));exact BK460.out)):gb496 ≠ gb460));have n19_:=Aside0.mk ((by rw [hg];exact Nat.ne_of_lt (blk_lt (g:=gb468) (o:= .cells #[.slice Ao35 t461.length co35,.int .i64 t464,.string t465,.int .i64 t466] 36 (0,0)) (by (with_reducible repeat (first|apply bN|apply bd|apply bA));exact BK468.out)):gb468 ≠ gb496));have n20_:=Aside0.mk ((by rw [hg];exact Nat.ne_of_gt (blk_lt (g:=gb468) (o:= .cells #[.slice Ao35 t461.length co35,.int .i64 t464,.string t465,.int .i64 t466] 36 (0,0)) (by (with_reducible repeat (first|apply bN|apply bd|apply bA));exact BK468.out)):gb496 ≠ gb468));clear HO_454000;clear HO_461000;clear HO_469000;clear HO485;clear HO491;clear BK438;clear BK453;clear BK460;clear BK468;clear HB;have HO_454000:=n0_;have HO_461000:=n1_;have HO_469000:=n2_;have HO485:=n3_;have HO491:=n4_;have BK438:=n5_;have BK453:=n6_;have BK460:=n7_;have BK468:=n8_;have HB:=n9_;have BK496:=n10_;have GW496:=n11_;have GE496:=n12_;have NB438_496:=n13_;have NB496_438:=n14_;have NB453_496:=n15_;have NB496_453:=n16_;have NB460_496:=n17_;have NB496_460:=n18_;have NB468_496:=n19_;have NB496_468:=n20_;clear n0_ n1_ n2_ n3_ n4_ n5_ n6_ n7_ n8_ n9_ n10_ n11_ n12_ n13_ n14_ n15_ n16_ n17_ n18_ n19_ n20_;clear hb hbox hg;obtain ⟨Ao98,co98,eo98⟩:=Kd.R_slice HO491.out;subst eo98;have hnb99:=NB496_438.out;have hnc99:=NB438_496.out;have hnb100:=NB496_453.out;have hnc100:=NB453_496.out;have hnb101:=NB496_460.out;have hnc101:=NB460_496.out;have hnb102:=NB496_468.out;have hnc102:=NB468_496.out;have hcz103_0:w97.cell? ⟨gb496,0,none⟩=some (.slice none 0 0):=(blk_cell BK496.out 0).trans rfl;have hcz103_1:w97.cell? ⟨gb496,1,none⟩=some (.int .i64 0):=(blk_cell BK496.out 1).trans rfl;have hcz103_2:w97.cell? ⟨gb496,2,none⟩=some (.string (⟨#[]⟩:ByteArray)):=(blk_cell BK496.out 2).trans rfl;have hcz103_3:w97.cell? ⟨gb496,3,none⟩=some (.int .i64 0):=(blk_cell BK496.out 3).trans rfl;have hfz103_0:=blk_frozen BK496.out 0;have hfz103_1:=blk_frozen BK496.out 1;have hfz103_2:=blk_frozen BK496.out 2;have hfz103_3:=blk_frozen BK496.out 3))
                        (try simp only [Act.put,List.setIfInBounds_toArray,List.set_cons_zero,List.set_cons_succ])
                        go_cut [95] (fun v95 wc=> ∃ (kq:Nat) (x95_82:Bool),v95= .bool x95_82 ∧ Aside0 (laws_FnExactAbsorbText.j2 kq t480 x95_82 t481 t464 t465 t466=some r) ∧ Aside0 (kq ≤ kj54) ∧ Aside0 (Kd.R k79 79 wc w.heap.size (fun k_=> some k_ ≠ ((.slice Ao29 t478.length co29):Value).ownBlock ∧ some k_ ≠ ((.slice Ao35 t461.length co35):Value).ownBlock ∧ some k_ ≠ ((.slice Ao98 t489.length co98):Value).ownBlock) (.slice Ao23 t446.length co23) t446) ∧ Aside0 (Kd.R k79 79 wc w.heap.size (fun k_=> some k_ ≠ ((.slice Ao23 t446.length co23):Value).ownBlock ∧ some k_ ≠ ((.slice Ao35 t461.length co35):Value).ownBlock ∧ some k_ ≠ ((.slice Ao98 t489.length co98):Value).ownBlock) (.slice Ao29 t478.length co29) t478) ∧ Aside0 (Kd.R k79 79 wc w.heap.size (fun k_=> some k_ ≠ ((.slice Ao23 t446.length co23):Value).ownBlock ∧ some k_ ≠ ((.slice Ao29 t478.length co29):Value).ownBlock ∧ some k_ ≠ ((.slice Ao98 t489.length co98):Value).ownBlock) (.slice Ao35 t461.length co35) t481) ∧ Aside0 (Kd.R k79 79 wc w.heap.size (fun k_=> some k_ ≠ ((.slice Ao23 t446.length co23):Value).ownBlock ∧ some k_ ≠ ((.slice Ao29 t478.length co29):Value).ownBlock ∧ some k_ ≠ ((.slice Ao35 t461.length co35):Value).ownBlock) (.slice Ao98 t489.length co98) t489) ∧ Aside0 (wc.heap[gb438]?=some (.cells #[(.slice A0_0 l0_0.length c0_0),.int .i64 a0_1,.string a0_2,.int .i64 a0_3] 61 (0,0))) ∧ Aside0 (wc.heap[gb453]?=some (.cells #[(.slice Ao23 t446.length co23),.int .i64 t449,.string t450,.int .i64 t451] 36 (0,0))) ∧ Aside0 (wc.heap[gb460]?=some (.cells #[(.slice Ao29 t478.length co29),.int .i64 t457,.string t458,.int .i64 t459] 36 (0,0))) ∧ Aside0 (wc.heap[gb468]?=some (.cells #[(.slice Ao35 t461.length co35),.int .i64 t464,.string t465,.int .i64 t466] 36 (0,0))) ∧ Aside0 (wc.heap[gb496]?=some (.cells #[(.slice Ao98 t489.length co98),.int .i64 t492,.string t493,.int .i64 t494] 36 (0,0))) ∧ Aside0 (Below w.heap.size w wc))
                        case first=>
                          have H:=HC83.out
                          clear HC83
                          replace H:=Option.bind_eq_some_iff.mp H
                          obtain ⟨t497,A1040,H⟩:=H
                          replace H:(if t497=true then (laws_FnExactAbsorbText.j2 kj54 t480 (t495 !=t452) t481 t464 t465 t466) else (none))=some r:=H
                          have A104:=Aside0.mk A1040
                          clear A1040
                          by_cases c105:t497=true
                          · subst c105
                            have H1:(laws_FnExactAbsorbText.j2 kj54 t480 (t495 !=t452) t481 t464 t465 t466)=some r:=by rw [if_pos rfl] at H;exact H
                            clear H
                            have H:=H1
                            clear H1
                            have H':=Aside0.mk H
                            clear H
                            have hnb106:=NB496_438.out
                            have hnc106:=NB438_496.out
                            have hnb107:=NB496_453.out
                            have hnc107:=NB453_496.out
                            have hnb108:=NB496_460.out
                            have hnc108:=NB460_496.out
                            have hnb109:=NB496_468.out
                            have hnc109:=NB468_496.out
                            have hcz110_0:w97.cell? ⟨gb496,0,none⟩=some (.slice none 0 0):=(blk_cell BK496.out 0).trans rfl
                            have hcz110_1:w97.cell? ⟨gb496,1,none⟩=some (.int .i64 0):=(blk_cell BK496.out 1).trans rfl
                            have hcz110_2:w97.cell? ⟨gb496,2,none⟩=some (.string (⟨#[]⟩:ByteArray)):=(blk_cell BK496.out 2).trans rfl
                            have hcz110_3:w97.cell? ⟨gb496,3,none⟩=some (.int .i64 0):=(blk_cell BK496.out 3).trans rfl
                            have hfz110_0:=blk_frozen BK496.out 0
                            have hfz110_1:=blk_frozen BK496.out 1
                            have hfz110_2:=blk_frozen BK496.out 2
                            have hfz110_3:=blk_frozen BK496.out 3
                            have hnb111:=NB453_438.out
                            have hnc111:=NB438_453.out
                            have hnb112:=NB453_460.out
                            have hnc112:=NB460_453.out
                            have hnb113:=NB453_468.out
                            have hnc113:=NB468_453.out
                            have hcz114_0:w97.cell? ⟨gb453,0,none⟩=some (.slice Ao23 t446.length co23):=(blk_cell BK453.out 0).trans rfl
                            have hcz114_1:w97.cell? ⟨gb453,1,none⟩=some (.int .i64 t449):=(blk_cell BK453.out 1).trans rfl
                            have hcz114_2:w97.cell? ⟨gb453,2,none⟩=some (.string t450):=(blk_cell BK453.out 2).trans rfl
                            have hcz114_3:w97.cell? ⟨gb453,3,none⟩=some (.int .i64 t451):=(blk_cell BK453.out 3).trans rfl
                            have hfz114_0:=blk_frozen BK453.out 0
                            have hfz114_1:=blk_frozen BK453.out 1
                            have hfz114_2:=blk_frozen BK453.out 2
                            have hfz114_3:=blk_frozen BK453.out 3
                            go_wp2_with (first|((with_reducible refine gate_callee (f:=36) rfl ?_);refine goesL_ (some 89) rfl rfl Try.func36 (by kernel_rfl) rfl #[.agg #[.slice Ao98 t489.length co98,.int .i64 t492,.string t493,.int .i64 t494],.agg #[.slice Ao23 t446.length co23,.int .i64 t449,.string t450,.int .i64 t451]] rfl (by (try simp only [List.map_toArray,List.map_cons,List.map_nil]);first|done|rfl|(simp only [List.length_drop,List.length_take];rfl)) ?_;(with_reducible refine (laws_eqSource.calls kj54 _ _ t489 t492 t493 t494 _ _ t446 t449 t450 t451 true _ ?side1 ?side2 ?side3 ?side4 A104.out).mono ?_);(case side1=> refine (Kd.R_reads' (e:=79) (base:=w.heap.size) (ok:=fun k_=> ((((True ∧ some k_ ≠ (.slice Ao23 t446.length co23:Value).ownBlock) ∧ some k_ ≠ (.slice Ao29 t478.length co29:Value).ownBlock) ∧ some k_ ≠ (.slice Ao35 t461.length co35:Value).ownBlock) ∧ some k_ ≠ (.slice Ao95 t483.length co95:Value).ownBlock)) (n:=t489.length) (c:=co98) ?_).2.2;exact (by (with_reducible repeat (first|apply Kd.R_alloc|apply Kd.R_drewN|apply Kd.R_drew));exact (Kd.R_mono (Kd.R_far (p:=⟨gb496,3,none⟩) (Kd.R_far (p:=⟨gb496,2,none⟩) (Kd.R_far (p:=⟨gb496,1,none⟩) (Kd.R_far (p:=⟨gb496,0,none⟩) (Kd.R_types HO491.out BK496.out (by decide)) (fun _ hk=> hk.2) (.slice Ao98 t489.length co98)) (fun _ hk=> hk.2) (.int .i64 t492)) (fun _ hk=> hk.2) (.string t493)) (fun _ hk=> hk.2) (.int .i64 t494)) (fun _ h_=> h_.1))));(case side2=> exact (Kd.R_reads' HO491.out).2.1);(case side3=> refine (Kd.R_reads' (e:=79) (base:=w.heap.size) (ok:=fun k_=> (((some k_ ≠ (.slice Ao29 t478.length co29:Value).ownBlock ∧ some k_ ≠ (.slice Ao35 t461.length co35:Value).ownBlock) ∧ some k_ ≠ (.slice Ao95 t483.length co95:Value).ownBlock) ∧ some k_ ≠ (.slice Ao98 t489.length co98:Value).ownBlock)) (n:=t446.length) (c:=co23) ?_).2.2;exact (by (with_reducible repeat (first|apply Kd.R_alloc|apply Kd.R_drewN|apply Kd.R_drew));exact (Kd.R_mono (Kd.R_far (p:=⟨gb496,3,none⟩) (Kd.R_far (p:=⟨gb496,2,none⟩) (Kd.R_far (p:=⟨gb496,1,none⟩) (Kd.R_far (p:=⟨gb496,0,none⟩) (Kd.R_types HO_454000.out BK496.out (by decide)) (fun _ hk=> hk.2) (.slice Ao98 t489.length co98)) (fun _ hk=> hk.2) (.int .i64 t492)) (fun _ hk=> hk.2) (.string t493)) (fun _ hk=> hk.2) (.int .i64 t494)) (fun _ h_=> h_.1))));(case side4=> exact (Kd.R_reads' HO_454000.out).2.1);rintro e w115 ⟨rfl,hb⟩;refine ⟨_,rfl,?_⟩;have n0_:=Aside0.mk (Kd.R_below (by (with_reducible repeat (first|apply Kd.R_alloc|apply Kd.R_drewN|apply Kd.R_drew));exact (Kd.R_mono (Kd.R_far (p:=⟨gb496,3,none⟩) (Kd.R_far (p:=⟨gb496,2,none⟩) (Kd.R_far (p:=⟨gb496,1,none⟩) (Kd.R_far (p:=⟨gb496,0,none⟩) (Kd.R_types HO_454000.out BK496.out (by decide)) (fun _ hk=> hk.2) (.slice Ao98 t489.length co98)) (fun _ hk=> hk.2) (.int .i64 t492)) (fun _ hk=> hk.2) (.string t493)) (fun _ hk=> hk.2) (.int .i64 t494)) (fun _ h_=> h_.1))) hb);have n1_:=Aside0.mk (Kd.R_below (by (with_reducible repeat (first|apply Kd.R_alloc|apply Kd.R_drewN|apply Kd.R_drew));exact (Kd.R_mono (Kd.R_far (p:=⟨gb496,3,none⟩) (Kd.R_far (p:=⟨gb496,2,none⟩) (Kd.R_far (p:=⟨gb496,1,none⟩) (Kd.R_far (p:=⟨gb496,0,none⟩) (Kd.R_types HO_461000.out BK496.out (by decide)) (fun _ hk=> hk.2) (.slice Ao98 t489.length co98)) (fun _ hk=> hk.2) (.int .i64 t492)) (fun _ hk=> hk.2) (.string t493)) (fun _ hk=> hk.2) (.int .i64 t494)) (fun _ h_=> h_.1))) hb);have n2_:=Aside0.mk (Kd.R_below (by (with_reducible repeat (first|apply Kd.R_alloc|apply Kd.R_drewN|apply Kd.R_drew));exact (Kd.R_mono (Kd.R_far (p:=⟨gb496,3,none⟩) (Kd.R_far (p:=⟨gb496,2,none⟩) (Kd.R_far (p:=⟨gb496,1,none⟩) (Kd.R_far (p:=⟨gb496,0,none⟩) (Kd.R_types HO_469000.out BK496.out (by decide)) (fun _ hk=> hk.2) (.slice Ao98 t489.length co98)) (fun _ hk=> hk.2) (.int .i64 t492)) (fun _ hk=> hk.2) (.string t493)) (fun _ hk=> hk.2) (.int .i64 t494)) (fun _ h_=> h_.1))) hb);have n3_:=Aside0.mk (Kd.R_below (by (with_reducible repeat (first|apply Kd.R_alloc|apply Kd.R_drewN|apply Kd.R_drew));exact (Kd.R_mono (Kd.R_far (p:=⟨gb496,3,none⟩) (Kd.R_far (p:=⟨gb496,2,none⟩) (Kd.R_far (p:=⟨gb496,1,none⟩) (Kd.R_far (p:=⟨gb496,0,none⟩) (Kd.R_types HO485.out BK496.out (by decide)) (fun _ hk=> hk.2) (.slice Ao98 t489.length co98)) (fun _ hk=> hk.2) (.int .i64 t492)) (fun _ hk=> hk.2) (.string t493)) (fun _ hk=> hk.2) (.int .i64 t494)) (fun _ h_=> h_.1))) hb);have n4_:=Aside0.mk (Kd.R_below (by (with_reducible repeat (first|apply Kd.R_alloc|apply Kd.R_drewN|apply Kd.R_drew));exact (Kd.R_mono (Kd.R_far (p:=⟨gb496,3,none⟩) (Kd.R_far (p:=⟨gb496,2,none⟩) (Kd.R_far (p:=⟨gb496,1,none⟩) (Kd.R_far (p:=⟨gb496,0,none⟩) (Kd.R_types HO491.out BK496.out (by decide)) (fun _ hk=> hk.2) (.slice Ao98 t489.length co98)) (fun _ hk=> hk.2) (.int .i64 t492)) (fun _ hk=> hk.2) (.string t493)) (fun _ hk=> hk.2) (.int .i64 t494)) (fun _ h_=> h_.1))) hb);have n5_:=Aside0.mk (blk_below (g:=gb438) (o:= .cells #[.slice A0_0 l0_0.length c0_0,.int .i64 a0_1,.string a0_2,.int .i64 a0_3] 61 (0,0)) (by (with_reducible repeat (first|apply bN|apply bd|apply bA));refine blk_far ?_ NB438_496.out _;(with_reducible repeat (first|apply bN|apply bd|apply bA));refine blk_far ?_ NB438_496.out _;(with_reducible repeat (first|apply bN|apply bd|apply bA));refine blk_far ?_ NB438_496.out _;(with_reducible repeat (first|apply bN|apply bd|apply bA));refine blk_far ?_ NB438_496.out _;(with_reducible repeat (first|apply bN|apply bd|apply bA));exact BK438.out) hb);have n6_:=Aside0.mk (blk_below (g:=gb453) (o:= .cells #[.slice Ao23 t446.length co23,.int .i64 t449,.string t450,.int .i64 t451] 36 (0,0)) (by (with_reducible repeat (first|apply bN|apply bd|apply bA));refine blk_far ?_ NB453_496.out _;(with_reducible repeat (first|apply bN|apply bd|apply bA));refine blk_far ?_ NB453_496.out _;(with_reducible repeat (first|apply bN|apply bd|apply bA));refine blk_far ?_ NB453_496.out _;(with_reducible repeat (first|apply bN|apply bd|apply bA));refine blk_far ?_ NB453_496.out _;(with_reducible repeat (first|apply bN|apply bd|apply bA));exact BK453.out) hb);have n7_:=Aside0.mk (blk_below (g:=gb460) (o:= .cells #[.slice Ao29 t478.length co29,.int .i64 t457,.string t458,.int .i64 t459] 36 (0,0)) (by (with_reducible repeat (first|apply bN|apply bd|apply bA));refine blk_far ?_ NB460_496.out _;(with_reducible repeat (first|apply bN|apply bd|apply bA));refine blk_far ?_ NB460_496.out _;(with_reducible repeat (first|apply bN|apply bd|apply bA));refine blk_far ?_ NB460_496.out _;(with_reducible repeat (first|apply bN|apply bd|apply bA));refine blk_far ?_ NB460_496.out _;(with_reducible repeat (first|apply bN|apply bd|apply bA));exact BK460.out) hb);have n8_:=Aside0.mk (blk_below (g:=gb468) (o:= .cells #[.slice Ao35 t461.length co35,.int .i64 t464,.string t465,.int .i64 t466] 36 (0,0)) (by (with_reducible repeat (first|apply bN|apply bd|apply bA));refine blk_far ?_ NB468_496.out _;(with_reducible repeat (first|apply bN|apply bd|apply bA));refine blk_far ?_ NB468_496.out _;(with_reducible repeat (first|apply bN|apply bd|apply bA));refine blk_far ?_ NB468_496.out _;(with_reducible repeat (first|apply bN|apply bd|apply bA));refine blk_far ?_ NB468_496.out _;(with_reducible repeat (first|apply bN|apply bd|apply bA));exact BK468.out) hb);have n9_:=Aside0.mk (blk_below (g:=gb496) (o:= .cells #[.slice Ao98 t489.length co98,.int .i64 t492,.string t493,.int .i64 t494] 36 (0,0)) (by (with_reducible repeat (first|apply bN|apply bd|apply bA));refine blk_put (cs:= #[.slice Ao98 t489.length co98,.int .i64 t492,.string t493,.int .i64 0]) ?_ 3 _ rfl;(with_reducible repeat (first|apply bN|apply bd|apply bA));refine blk_put (cs:= #[.slice Ao98 t489.length co98,.int .i64 t492,.string (⟨#[]⟩:ByteArray),.int .i64 0]) ?_ 2 _ rfl;(with_reducible repeat (first|apply bN|apply bd|apply bA));refine blk_put (cs:= #[.slice Ao98 t489.length co98,.int .i64 0,.string (⟨#[]⟩:ByteArray),.int .i64 0]) ?_ 1 _ rfl;(with_reducible repeat (first|apply bN|apply bd|apply bA));refine blk_put (cs:= #[.slice none 0 0,.int .i64 0,.string (⟨#[]⟩:ByteArray),.int .i64 0]) ?_ 0 _ rfl;(with_reducible repeat (first|apply bN|apply bd|apply bA));exact BK496.out) hb);have n10_:=Aside0.mk (below_step (by repeat (first|(with_reducible first|exact HB.out|apply below_alloc|apply pw_below_drewN|apply below_drew1|refine below_set ?_ GE438.out|refine below_set ?_ GE453.out|refine below_set ?_ GE460.out|refine below_set ?_ GE468.out|refine below_set ?_ GE496.out)|exact HB.out)) hb);clear HO_454000;clear HO_461000;clear HO_469000;clear HO485;clear HO491;clear BK438;clear BK453;clear BK460;clear BK468;clear BK496;clear HB;have HO_454000:=n0_;have HO_461000:=n1_;have HO_469000:=n2_;have HO485:=n3_;have HO491:=n4_;have BK438:=n5_;have BK453:=n6_;have BK460:=n7_;have BK468:=n8_;have BK496:=n9_;have HB:=n10_;clear n0_ n1_ n2_ n3_ n4_ n5_ n6_ n7_ n8_ n9_ n10_;(try clear hb);(try clear hb2);(try clear hk);(try clear hi)))
                            go_meet
                            case rel=> exact ⟨_,((t495 !=t452)),(by first|rfl|(simp;done)|(simp [*];done)),H',⟨by have:=HJ13.out;have:=HJ54.out;first|omega|exact Nat.le_refl _⟩,⟨by (try simp only [hl461000_54]);(with_reducible repeat (first|apply Kd.R_alloc|apply Kd.R_drewN|apply Kd.R_drew));exact Kd.R_mono HO_454000.out (fun _ hk=> ⟨hk.1.1.1,⟨hk.1.1.2,hk.2⟩⟩)⟩,⟨by (try simp only [hl461000_54]);(with_reducible repeat (first|apply Kd.R_alloc|apply Kd.R_drewN|apply Kd.R_drew));exact Kd.R_mono HO_461000.out (fun _ hk=> ⟨hk.1.1.1,⟨hk.1.1.2,hk.2⟩⟩)⟩,⟨by (try simp only [hl461000_54]);(with_reducible repeat (first|apply Kd.R_alloc|apply Kd.R_drewN|apply Kd.R_drew));exact Kd.R_mono HO_469000.out (fun _ hk=> ⟨hk.1.1.1,⟨hk.1.1.2,hk.2⟩⟩)⟩,⟨by (try simp only [hl461000_54]);(with_reducible repeat (first|apply Kd.R_alloc|apply Kd.R_drewN|apply Kd.R_drew));exact Kd.R_mono HO491.out (fun _ hk=> ⟨hk.1.1.1.2,⟨hk.1.1.2,hk.1.2⟩⟩)⟩,⟨by (try simp only [hl461000_54]);(with_reducible repeat (first|apply bN|apply bd|apply bA));exact BK438.out⟩,⟨by (try simp only [hl461000_54]);(with_reducible repeat (first|apply bN|apply bd|apply bA));exact BK453.out⟩,⟨by (try simp only [hl461000_54]);(with_reducible repeat (first|apply bN|apply bd|apply bA));exact BK460.out⟩,⟨by (try simp only [hl461000_54]);(with_reducible repeat (first|apply bN|apply bd|apply bA));exact BK468.out⟩,⟨by (try simp only [hl461000_54]);(with_reducible repeat (first|apply bN|apply bd|apply bA));exact BK496.out⟩,⟨by repeat (first|(with_reducible first|exact HB.out|apply below_alloc|apply pw_below_drewN|apply below_drew1|refine below_set ?_ GE438.out|refine below_set ?_ GE453.out|refine below_set ?_ GE460.out|refine below_set ?_ GE468.out|refine below_set ?_ GE496.out)|exact HB.out)⟩⟩
                          · replace c105:=Bool.eq_false_iff.mpr c105
                            subst c105
                            have H1:(none)=some r:=by rw [if_neg (show ¬ (false=true) by decide)] at H;exact H
                            clear H
                            have H:=H1
                            clear H1
                            exact absurd H (by simp)
                        case rest=>
                          clear HC83
                          try clear c1
                          try clear c2
                          try clear p2
                          try clear c3
                          try clear c3b0
                          try clear c3b1
                          try clear c4
                          try clear c5
                          try clear c6
                          try clear c6b0
                          try clear c7
                          try clear c8
                          try clear c9
                          try clear c10
                          try clear c11
                          try clear c16
                          try clear c24
                          try clear c30
                          try clear c31
                          try clear c36
                          try clear c37
                          try clear c38
                          try clear c41
                          try clear c42
                          try clear c43
                          try clear c44
                          try clear c46
                          try clear c47
                          try clear c50
                          try clear c53
                          try clear c55
                          try clear c60
                          try clear c61
                          try clear c62
                          try clear c65
                          try clear c65b0
                          try clear c66
                          try clear c67
                          try clear c68
                          try clear c69
                          try clear c70
                          try clear c72
                          try clear c73
                          try clear c76
                          try clear c79
                          try clear c79b0
                          try clear c80
                          try clear c80b0
                          try clear c80b1
                          try clear c84
                          try clear c85
                          try clear c86
                          try clear c91
                          try clear c92
                          try clear c99
                          try clear c100
                          try clear c101
                          try clear c102
                          try clear c105
                          try clear c106
                          try clear c107
                          try clear c108
                          try clear c109
                          try clear c111
                          try clear c112
                          try clear c113
                          try clear hcz103_0
                          try clear hcz103_1
                          try clear hcz103_2
                          try clear hcz103_3
                          try clear hcz110_0
                          try clear hcz110_1
                          try clear hcz110_2
                          try clear hcz110_3
                          try clear hcz114_0
                          try clear hcz114_1
                          try clear hcz114_2
                          try clear hcz114_3
                          try clear hcz16_0
                          try clear hcz16_1
                          try clear hcz16_2
                          try clear hcz16_3
                          try clear hcz18_0
                          try clear hcz18_1
                          try clear hcz18_2
                          try clear hcz18_3
                          try clear hcz25_0
                          try clear hcz25_1
                          try clear hcz25_2
                          try clear hcz25_3
                          try clear hcz26_0
                          try clear hcz26_1
                          try clear hcz26_2
                          try clear hcz26_3
                          try clear hcz32_0
                          try clear hcz32_1
                          try clear hcz32_2
                          try clear hcz32_3
                          try clear hcz39_0
                          try clear hcz39_1
                          try clear hcz39_2
                          try clear hcz39_3
                          try clear hcz45_0
                          try clear hcz45_1
                          try clear hcz45_2
                          try clear hcz45_3
                          try clear hcz48_0
                          try clear hcz48_1
                          try clear hcz48_2
                          try clear hcz48_3
                          try clear hcz63_0
                          try clear hcz63_1
                          try clear hcz63_2
                          try clear hcz63_3
                          try clear hcz71_0
                          try clear hcz71_1
                          try clear hcz71_2
                          try clear hcz71_3
                          try clear hcz74_0
                          try clear hcz74_1
                          try clear hcz74_2
                          try clear hcz74_3
                          try clear hcz87_0
                          try clear hcz87_1
                          try clear hcz87_2
                          try clear hcz87_3
                          try clear hcz89_0
                          try clear hcz89_1
                          try clear hcz89_2
                          try clear hcz89_3
                          try clear hcz8_0
                          try clear hcz8_1
                          try clear hcz8_2
                          try clear hcz8_3
                          try clear hcz93_0
                          try clear hcz93_1
                          try clear hcz93_2
                          try clear hcz93_3
                          try clear hfz103_0
                          try clear hfz103_1
                          try clear hfz103_2
                          try clear hfz103_3
                          try clear hfz110_0
                          try clear hfz110_1
                          try clear hfz110_2
                          try clear hfz110_3
                          try clear hfz114_0
                          try clear hfz114_1
                          try clear hfz114_2
                          try clear hfz114_3
                          try clear hfz16_0
                          try clear hfz16_1
                          try clear hfz16_2
                          try clear hfz16_3
                          try clear hfz18_0
                          try clear hfz18_1
                          try clear hfz18_2
                          try clear hfz18_3
                          try clear hfz25_0
                          try clear hfz25_1
                          try clear hfz25_2
                          try clear hfz25_3
                          try clear hfz26_0
                          try clear hfz26_1
                          try clear hfz26_2
                          try clear hfz26_3
                          try clear hfz32_0
                          try clear hfz32_1
                          try clear hfz32_2
                          try clear hfz32_3
                          try clear hfz39_0
                          try clear hfz39_1
                          try clear hfz39_2
                          try clear hfz39_3
                          try clear hfz45_0
                          try clear hfz45_1
                          try clear hfz45_2
                          try clear hfz45_3
                          try clear hfz48_0
                          try clear hfz48_1
                          try clear hfz48_2
                          try clear hfz48_3
                          try clear hfz63_0
                          try clear hfz63_1
                          try clear hfz63_2
                          try clear hfz63_3
                          try clear hfz71_0
                          try clear hfz71_1
                          try clear hfz71_2
                          try clear hfz71_3
                          try clear hfz74_0
                          try clear hfz74_1
                          try clear hfz74_2
                          try clear hfz74_3
                          try clear hfz87_0
                          try clear hfz87_1
                          try clear hfz87_2
                          try clear hfz87_3
                          try clear hfz89_0
                          try clear hfz89_1
                          try clear hfz89_2
                          try clear hfz89_3
                          try clear hfz8_0
                          try clear hfz8_1
                          try clear hfz8_2
                          try clear hfz8_3
                          try clear hfz93_0
                          try clear hfz93_1
                          try clear hfz93_2
                          try clear hfz93_3
                          try clear p2
                          obtain ⟨kq,x95_82,rfl,HA,HJ82,HO_454000,HO_461000,HO_469000,HO_497000,BK438,BK453,BK460,BK468,BK496,HB⟩:=hcut
                          have hl469000_82:=(Kd.R_reads' HO_469000.out).1
                          rw [hl469000_82] at HO_469000
                          (try simp only [hl469000_82])
                          (try simp only [hl469000_82] at BK438)
                          (try simp only [hl469000_82] at BK453)
                          (try simp only [hl469000_82] at BK460)
                          (try simp only [hl469000_82] at BK468)
                          (try simp only [hl469000_82] at BK496)
                          (try simp only [hl469000_82] at HO_454000)
                          (try simp only [hl469000_82] at HO_461000)
                          (try simp only [hl469000_82] at HO_497000)
                          cases kq with
                          |zero=> exact absurd HA.out (by simp [laws_FnExactAbsorbText.j2])
                          |succ kj82=>
                            have H:=HA.out
                            clear HA
                            simp only [laws_FnExactAbsorbText.j2] at H
                            by_cases c116:x95_82=true
                            · subst c116
                              have H1:(none)=some r:=by rw [if_pos rfl] at H;exact H
                              clear H
                              have H:=H1
                              clear H1
                              exact absurd H (by simp)
                            · replace c116:=Bool.eq_false_iff.mpr c116
                              subst c116
                              have H1:((laws_heldSource.f kj82 t481 t464 t465 t466 1).bind fun t498=> (if t498 < 0 then (none) else (if t498=t480 then (some true) else (none))))=some r:=by rw [if_neg (show ¬ (false=true) by decide)] at H;exact H
                              clear H
                              have H:=H1
                              clear H1
                              replace H:=Option.bind_eq_some_iff.mp H
                              obtain ⟨t498,A1170,H⟩:=H
                              replace H:(if t498 < 0 then (none) else (if t498=t480 then (some true) else (none)))=some r:=H
                              have A117:=Aside0.mk A1170
                              clear A1170
                              by_cases c118:t498 < 0
                              · rw [if_pos c118] at H
                                exact absurd H (by simp)
                              · rw [if_neg c118] at H
                                have c118b0:decide (t498 < 0)=false:=decide_eq_false c118
                                clear c118
                                by_cases c119:t498=t480
                                · rw [if_pos c119] at H
                                  have c119b0:(t498==t480)=true:=beq_iff_eq.mpr c119
                                  have c119b1:(t498 !=t480)=false:=bne_eq_false_iff_eq.mpr c119
                                  clear c119
                                  obtain rfl:=Option.some.inj H
                                  have hnb120:=NB468_438.out
                                  have hnc120:=NB438_468.out
                                  have hnb121:=NB468_453.out
                                  have hnc121:=NB453_468.out
                                  have hnb122:=NB468_460.out
                                  have hnc122:=NB460_468.out
                                  have hnb123:=NB468_496.out
                                  have hnc123:=NB496_468.out
                                  have hcz124_0:wc.cell? ⟨gb468,0,none⟩=some (.slice Ao35 t481.length co35):=(blk_cell BK468.out 0).trans rfl
                                  have hcz124_1:wc.cell? ⟨gb468,1,none⟩=some (.int .i64 t464):=(blk_cell BK468.out 1).trans rfl
                                  have hcz124_2:wc.cell? ⟨gb468,2,none⟩=some (.string t465):=(blk_cell BK468.out 2).trans rfl
                                  have hcz124_3:wc.cell? ⟨gb468,3,none⟩=some (.int .i64 t466):=(blk_cell BK468.out 3).trans rfl
                                  have hfz124_0:=blk_frozen BK468.out 0
                                  have hfz124_1:=blk_frozen BK468.out 1
                                  have hfz124_2:=blk_frozen BK468.out 2
                                  have hfz124_3:=blk_frozen BK468.out 3
                                  go_wp2_with (first|((with_reducible refine gate_callee (f:=38) rfl ?_);refine goesL_ (some 98) rfl rfl Try.func38 (by kernel_rfl) rfl #[.agg #[.slice Ao35 t481.length co35,.int .i64 t464,.string t465,.int .i64 t466],.int .i64 1] rfl (by (try simp only [List.map_toArray,List.map_cons,List.map_nil]);first|done|rfl|(simp only [List.length_drop,List.length_take];rfl)) ?_;(with_reducible refine (laws_heldSource.calls kj82 _ _ t481 t464 t465 t466 1 t498 _ ?side1 ?side2 A117.out).mono ?_);(case side1=> repeat (first|exact (Kd.R_reads' HO_469000.out).2.2|(with_reducible refine Kd.C_alloc ?_ _)|(with_reducible refine Kd.C_drewN ?_ _)|(with_reducible refine Kd.C_drew ?_)));(case side2=> exact (Kd.R_reads' HO_469000.out).2.1);rintro e w125 ⟨rfl,hb⟩;refine ⟨_,rfl,?_⟩;have n0_:=Aside0.mk (Kd.R_below (by (with_reducible repeat (first|apply Kd.R_alloc|apply Kd.R_drewN|apply Kd.R_drew));exact HO_454000.out) hb);have n1_:=Aside0.mk (Kd.R_below (by (with_reducible repeat (first|apply Kd.R_alloc|apply Kd.R_drewN|apply Kd.R_drew));exact HO_461000.out) hb);have n2_:=Aside0.mk (Kd.R_below (by (with_reducible repeat (first|apply Kd.R_alloc|apply Kd.R_drewN|apply Kd.R_drew));exact HO_469000.out) hb);have n3_:=Aside0.mk (Kd.R_below (by (with_reducible repeat (first|apply Kd.R_alloc|apply Kd.R_drewN|apply Kd.R_drew));exact HO_497000.out) hb);have n4_:=Aside0.mk (blk_below (g:=gb438) (o:= .cells #[.slice A0_0 l0_0.length c0_0,.int .i64 a0_1,.string a0_2,.int .i64 a0_3] 61 (0,0)) (by (with_reducible repeat (first|apply bN|apply bd|apply bA));exact BK438.out) hb);have n5_:=Aside0.mk (blk_below (g:=gb453) (o:= .cells #[.slice Ao23 t446.length co23,.int .i64 t449,.string t450,.int .i64 t451] 36 (0,0)) (by (with_reducible repeat (first|apply bN|apply bd|apply bA));exact BK453.out) hb);have n6_:=Aside0.mk (blk_below (g:=gb460) (o:= .cells #[.slice Ao29 t478.length co29,.int .i64 t457,.string t458,.int .i64 t459] 36 (0,0)) (by (with_reducible repeat (first|apply bN|apply bd|apply bA));exact BK460.out) hb);have n7_:=Aside0.mk (blk_below (g:=gb468) (o:= .cells #[.slice Ao35 t481.length co35,.int .i64 t464,.string t465,.int .i64 t466] 36 (0,0)) (by (with_reducible repeat (first|apply bN|apply bd|apply bA));exact BK468.out) hb);have n8_:=Aside0.mk (blk_below (g:=gb496) (o:= .cells #[.slice Ao98 t489.length co98,.int .i64 t492,.string t493,.int .i64 t494] 36 (0,0)) (by (with_reducible repeat (first|apply bN|apply bd|apply bA));exact BK496.out) hb);have n9_:=Aside0.mk (below_step (by repeat (first|(with_reducible first|exact HB.out|apply below_alloc|apply pw_below_drewN|apply below_drew1|refine below_set ?_ GE438.out|refine below_set ?_ GE453.out|refine below_set ?_ GE460.out|refine below_set ?_ GE468.out|refine below_set ?_ GE496.out)|exact HB.out)) hb);clear HO_454000;clear HO_461000;clear HO_469000;clear HO_497000;clear BK438;clear BK453;clear BK460;clear BK468;clear BK496;clear HB;have HO_454000:=n0_;have HO_461000:=n1_;have HO_469000:=n2_;have HO_497000:=n3_;have BK438:=n4_;have BK453:=n5_;have BK460:=n6_;have BK468:=n7_;have BK496:=n8_;have HB:=n9_;clear n0_ n1_ n2_ n3_ n4_ n5_ n6_ n7_ n8_ n9_;(try clear hb);(try clear hb2);(try clear hk);(try clear hi)))
                                  go_ret
                                  exact ⟨by first|rfl|(simp [errW_none,errW_some] <;> rfl)|(simp [*,errW_none,errW_some] <;> rfl),by repeat (first|(with_reducible first|exact HB.out|apply below_alloc|apply pw_below_drewN|apply below_drew1|refine below_set ?_ GE438.out|refine below_set ?_ GE453.out|refine below_set ?_ GE460.out|refine below_set ?_ GE468.out|refine below_set ?_ GE496.out)|exact HB.out)⟩
                                · rw [if_neg c119] at H
                                  exact absurd H (by simp)
                      · rw [if_neg c80] at H
                        exact absurd H (by simp)
            · replace c53:=Bool.eq_false_iff.mpr c53
              subst c53
              have H1:(none)=some r:=by rw [if_neg (show ¬ (false=true) by decide)] at H;exact H
              clear H
              have H:=H1
              clear H1
              exact absurd H (by simp)
end Go.Proofs.Ytlogocmojnhpbaa.Print
