-- Packed by a program of this session (slim.py) out of printed texts; not trusted, Lean checks it.
import Derived.Test.YtlogocmojnhpbaaP0
import Derived.Test.YtlogocmojnhpbaaQFnExactAbsorbExts1
import Derived.Test.YtlogocmojnhpbaaQFnExactAbsorbExts2
import Derived.Test.YtlogocmojnhpbaaQFnExactAbsorbExts3
import Derived.Test.YtlogocmojnhpbaaQFnExactAbsorbExts5
namespace Go.Proofs.Ytlogocmojnhpbaa.Print
open Go.RowKit Go.Proofs.YtlogocmojnhpbaaW.PrintWords Go.Proofs.YtlogocmojnhpbaaW.PrintLast Go.Proofs.YtlogocmojnhpbaaW.PrintMore
attribute [local go_sem] max2_int min2_int max_two min_two max_three min_three max_four min_four
set_option linter.unusedVariables false
set_option linter.unusedSimpArgs false
mutual
def laws_FnExactAbsorbExts.j0:Nat → List (S125) → Int → List (S79) → Int → Bool → List (S125) → Int → ByteArray → Int → List (S79) → Int → ByteArray → Int → List (S79) → Int → ByteArray → Int → List (S79) → Int → ByteArray → Int → Option (Bool)
  |0,_,_,_,_,_,_,_,_,_,_,_,_,_,_,_,_,_,_,_,_,_=> none
  |k + 1,x1,x7,x9,x11,x53,x555000,x555001,x555002,x555003,x574000,x574001,x574002,x574003,x581000,x581001,x581002,x581003,x592000,x592001,x592002,x592003=> if x53=true then (none) else ((laws_toSource.f k x555000 x555001 x555002 x555003).bind fun bt593=> ((laws_eqSource.f k x581000 x581001 x581002 x581003 bt593.1 bt593.2.1 bt593.2.2.1 bt593.2.2.2).bind fun t599=> (if t599=true then ((laws_toExtS.f k x1).bind fun t600=> ((laws_eqExtS.f k x9 t600).bind fun t603=> (if t603=true then ((laws_markSource.f k x581000 x581001 x581002 x581003 1).bind fun bt604=> ((laws_markExtS.f k x9 bt604.1).bind fun bt606=> (if bt606.1 < 0 then (none) else ((laws_eqSource.f k x592000 x592001 x592002 x592003 x574000 x574001 x574002 x574003).bind fun t608=> (if t608=true then (laws_FnExactAbsorbExts.j1 k x1 x7 (x11 !=x7) x555000 x555001 x555002 x555003 x574000 x574001 x574002 x574003 x592000 x592001 x592002 x592003) else (none)))))) else (none)))) else (none))))
def laws_FnExactAbsorbExts.j1:Nat → List (S125) → Int → Bool → List (S125) → Int → ByteArray → Int → List (S79) → Int → ByteArray → Int → List (S79) → Int → ByteArray → Int → Option (Bool)
  |0,_,_,_,_,_,_,_,_,_,_,_,_,_,_,_=> none
  |k + 1,x1,x7,x82,x555000,x555001,x555002,x555003,x574000,x574001,x574002,x574003,x592000,x592001,x592002,x592003=> if x82=true then (none) else ((laws_markSource.f k x592000 x592001 x592002 x592003 1).bind fun bt609=> ((laws_heldSource.f k bt609.2 x592001 x592002 x592003 1).bind fun t611=> (if t611 < 0 then (none) else (if t611=bt609.1 then ((laws_toSource.f k x555000 x555001 x555002 x555003).bind fun bt612=> ((laws_toExtS.f k x1).bind fun t618=> ((impl_AbsorbExts.f bt612.1 bt612.2.1 bt612.2.2.1 bt612.2.2.2 t618).bind fun bt621=> ((laws_eqSource.f k bt621.1 bt621.2.1 bt621.2.2.1 bt621.2.2.2.1 x574000 x574001 x574002 x574003).bind fun t629=> (if t629=true then (laws_FnExactAbsorbExts.j2 k bt609.1 (bt621.2.2.2.2 !=x7) bt609.2 x592001 x592002 x592003) else (none)))))) else (none)))))
def laws_FnExactAbsorbExts.j2:Nat → Int → Bool → List (S79) → Int → ByteArray → Int → Option (Bool)
  |0,_,_,_,_,_,_=> none
  |k + 1,x13,x110,x592000,x592001,x592002,x592003=> if x110=true then (none) else ((laws_heldSource.f k x592000 x592001 x592002 x592003 1).bind fun t630=> (if t630 < 0 then (none) else (if t630=x13 then (some true) else (none))))
end
def laws_FnExactAbsorbExts.f (k:Nat) (l0_0:List (S125)) (a0_1:Int) (a0_2:ByteArray) (a0_3:Int) (l1:List (S125)):Option (Bool):=(laws_szSource.f l0_0 a0_1 a0_2 a0_3 1048576).bind fun t555=> (if t555 < 0 then (some true) else ((laws_szExtS.f l1 t555).bind fun t556=> (if t556 < 0 then (some true) else ((laws_toSource.f k l0_0 a0_1 a0_2 a0_3).bind fun bt557=> ((laws_toExtS.f k l1).bind fun t563=> ((spec_AbsorbExts.f k bt557.1 bt557.2.1 bt557.2.2.1 bt557.2.2.2 t563).bind fun bt566=> ((laws_toSource.f k l0_0 a0_1 a0_2 a0_3).bind fun bt574=> ((laws_toExtS.f k l1).bind fun t581=> ((impl_AbsorbExts.f bt574.1 bt574.2.1 bt574.2.2.1 bt574.2.2.2 t581).bind fun bt584=> ((laws_eqSource.f k bt584.1 bt584.2.1 bt584.2.2.1 bt584.2.2.2.1 bt566.1 bt566.2.1 bt566.2.2.1 bt566.2.2.2.1).bind fun t592=> (if t592=true then (laws_FnExactAbsorbExts.j0 k l1 bt566.2.2.2.2 t581 bt584.2.2.2.2 (bt584.2.2.2.2 !=bt566.2.2.2.2) l0_0 a0_1 a0_2 a0_3 bt566.1 bt566.2.1 bt566.2.2.1 bt566.2.2.2.1 bt574.1 bt574.2.1 bt574.2.2.1 bt574.2.2.2 bt584.1 bt584.2.1 bt584.2.2.1 bt584.2.2.2.1) else (none))))))))))))
theorem laws_FnExactAbsorbExts.mono_l:∀ k,(∀ y0 y1 y2 y3 y4 y5 y6 y7 y8 y9 y10 y11 y12 y13 y14 y15 y16 y17 y18 y19 y20,LeO (laws_FnExactAbsorbExts.j0 k y0 y1 y2 y3 y4 y5 y6 y7 y8 y9 y10 y11 y12 y13 y14 y15 y16 y17 y18 y19 y20) (laws_FnExactAbsorbExts.j0 (k + 1) y0 y1 y2 y3 y4 y5 y6 y7 y8 y9 y10 y11 y12 y13 y14 y15 y16 y17 y18 y19 y20)) ∧ (∀ y0 y1 y2 y3 y4 y5 y6 y7 y8 y9 y10 y11 y12 y13 y14,LeO (laws_FnExactAbsorbExts.j1 k y0 y1 y2 y3 y4 y5 y6 y7 y8 y9 y10 y11 y12 y13 y14) (laws_FnExactAbsorbExts.j1 (k + 1) y0 y1 y2 y3 y4 y5 y6 y7 y8 y9 y10 y11 y12 y13 y14)) ∧ (∀ y0 y1 y2 y3 y4 y5,LeO (laws_FnExactAbsorbExts.j2 k y0 y1 y2 y3 y4 y5) (laws_FnExactAbsorbExts.j2 (k + 1) y0 y1 y2 y3 y4 y5))
  |0=> ⟨fun _ _ _ _ _ _ _ _ _ _ _ _ _ _ _ _ _ _ _ _ _ r h=> by simp [laws_FnExactAbsorbExts.j0] at h,fun _ _ _ _ _ _ _ _ _ _ _ _ _ _ _ r h=> by simp [laws_FnExactAbsorbExts.j1] at h,fun _ _ _ _ _ _ r h=> by simp [laws_FnExactAbsorbExts.j2] at h⟩
  |k + 1=> by
    obtain ⟨ih0,ih1,ih2⟩:=laws_FnExactAbsorbExts.mono_l k
    refine ⟨?_,?_,?_⟩
    · intro y0 y1 y2 y3 y4 y5 y6 y7 y8 y9 y10 y11 y12 y13 y14 y15 y16 y17 y18 y19 y20
      unfold laws_FnExactAbsorbExts.j0
      repeat' first
      |(with_reducible exact ih0 _ _ _ _ _ _ _ _ _ _ _ _ _ _ _ _ _ _ _ _ _)
      |(with_reducible exact ih1 _ _ _ _ _ _ _ _ _ _ _ _ _ _ _)
      |(with_reducible exact ih2 _ _ _ _ _ _)
      |(with_reducible exact laws_eqExtS.mono _ _ _)
      |(with_reducible exact laws_eqSource.mono _ _ _ _ _ _ _ _ _)
      |(with_reducible exact laws_heldSource.mono _ _ _ _ _ _)
      |(with_reducible exact laws_markExtS.mono _ _ _)
      |(with_reducible exact laws_markSource.mono _ _ _ _ _ _)
      |(with_reducible exact laws_toExtS.mono _ _)
      |(with_reducible exact laws_toSource.mono _ _ _ _ _)
      |(with_reducible exact spec_AbsorbExts.mono _ _ _ _ _ _)
      |(with_reducible exact LeO.refl _)
      |(with_reducible exact LeO.none _)
      |(with_reducible refine LeO.ite ?_ ?_)
      |(with_reducible refine LeO.bind ?_ (fun _=> ?_))
      |exact ih0 _ _ _ _ _ _ _ _ _ _ _ _ _ _ _ _ _ _ _ _ _
      |exact ih1 _ _ _ _ _ _ _ _ _ _ _ _ _ _ _
      |exact ih2 _ _ _ _ _ _
      |exact laws_eqExtS.mono _ _ _
      |exact laws_eqSource.mono _ _ _ _ _ _ _ _ _
      |exact laws_heldSource.mono _ _ _ _ _ _
      |exact laws_markExtS.mono _ _ _
      |exact laws_markSource.mono _ _ _ _ _ _
      |exact laws_toExtS.mono _ _
      |exact laws_toSource.mono _ _ _ _ _
      |exact spec_AbsorbExts.mono _ _ _ _ _ _
      |exact LeO.none _
      |refine LeO.ite ?_ ?_
      |refine LeO.bind ?_ (fun _=> ?_)
    · intro y0 y1 y2 y3 y4 y5 y6 y7 y8 y9 y10 y11 y12 y13 y14
      unfold laws_FnExactAbsorbExts.j1
      repeat' first
      |(with_reducible exact ih0 _ _ _ _ _ _ _ _ _ _ _ _ _ _ _ _ _ _ _ _ _)
      |(with_reducible exact ih1 _ _ _ _ _ _ _ _ _ _ _ _ _ _ _)
      |(with_reducible exact ih2 _ _ _ _ _ _)
      |(with_reducible exact laws_eqExtS.mono _ _ _)
      |(with_reducible exact laws_eqSource.mono _ _ _ _ _ _ _ _ _)
      |(with_reducible exact laws_heldSource.mono _ _ _ _ _ _)
      |(with_reducible exact laws_markExtS.mono _ _ _)
      |(with_reducible exact laws_markSource.mono _ _ _ _ _ _)
      |(with_reducible exact laws_toExtS.mono _ _)
      |(with_reducible exact laws_toSource.mono _ _ _ _ _)
      |(with_reducible exact spec_AbsorbExts.mono _ _ _ _ _ _)
      |(with_reducible exact LeO.refl _)
      |(with_reducible exact LeO.none _)
      |(with_reducible refine LeO.ite ?_ ?_)
      |(with_reducible refine LeO.bind ?_ (fun _=> ?_))
      |exact ih0 _ _ _ _ _ _ _ _ _ _ _ _ _ _ _ _ _ _ _ _ _
      |exact ih1 _ _ _ _ _ _ _ _ _ _ _ _ _ _ _
      |exact ih2 _ _ _ _ _ _
      |exact laws_eqExtS.mono _ _ _
      |exact laws_eqSource.mono _ _ _ _ _ _ _ _ _
      |exact laws_heldSource.mono _ _ _ _ _ _
      |exact laws_markExtS.mono _ _ _
      |exact laws_markSource.mono _ _ _ _ _ _
      |exact laws_toExtS.mono _ _
      |exact laws_toSource.mono _ _ _ _ _
      |exact spec_AbsorbExts.mono _ _ _ _ _ _
      |exact LeO.none _
      |refine LeO.ite ?_ ?_
      |refine LeO.bind ?_ (fun _=> ?_)
    · intro y0 y1 y2 y3 y4 y5
      unfold laws_FnExactAbsorbExts.j2
      repeat' first
      |(with_reducible exact ih0 _ _ _ _ _ _ _ _ _ _ _ _ _ _ _ _ _ _ _ _ _)
      |(with_reducible exact ih1 _ _ _ _ _ _ _ _ _ _ _ _ _ _ _)
      |(with_reducible exact ih2 _ _ _ _ _ _)
      |(with_reducible exact laws_eqExtS.mono _ _ _)
      |(with_reducible exact laws_eqSource.mono _ _ _ _ _ _ _ _ _)
      |(with_reducible exact laws_heldSource.mono _ _ _ _ _ _)
      |(with_reducible exact laws_markExtS.mono _ _ _)
      |(with_reducible exact laws_markSource.mono _ _ _ _ _ _)
      |(with_reducible exact laws_toExtS.mono _ _)
      |(with_reducible exact laws_toSource.mono _ _ _ _ _)
      |(with_reducible exact spec_AbsorbExts.mono _ _ _ _ _ _)
      |(with_reducible exact LeO.refl _)
      |(with_reducible exact LeO.none _)
      |(with_reducible refine LeO.ite ?_ ?_)
      |(with_reducible refine LeO.bind ?_ (fun _=> ?_))
      |exact ih0 _ _ _ _ _ _ _ _ _ _ _ _ _ _ _ _ _ _ _ _ _
      |exact ih1 _ _ _ _ _ _ _ _ _ _ _ _ _ _ _
      |exact ih2 _ _ _ _ _ _
      |exact laws_eqExtS.mono _ _ _
      |exact laws_eqSource.mono _ _ _ _ _ _ _ _ _
      |exact laws_heldSource.mono _ _ _ _ _ _
      |exact laws_markExtS.mono _ _ _
      |exact laws_markSource.mono _ _ _ _ _ _
      |exact laws_toExtS.mono _ _
      |exact laws_toSource.mono _ _ _ _ _
      |exact spec_AbsorbExts.mono _ _ _ _ _ _
      |exact LeO.none _
      |refine LeO.ite ?_ ?_
      |refine LeO.bind ?_ (fun _=> ?_)
theorem laws_FnExactAbsorbExts.mono:∀ a0 a1 a2 a3 a4 k,LeO (laws_FnExactAbsorbExts.f k a0 a1 a2 a3 a4) (laws_FnExactAbsorbExts.f (k + 1) a0 a1 a2 a3 a4):=by
  intro a0 a1 a2 a3 a4 k
  obtain ⟨ih0,ih1,ih2⟩:=laws_FnExactAbsorbExts.mono_l k
  unfold laws_FnExactAbsorbExts.f
  repeat' first
      |(with_reducible exact ih0 _ _ _ _ _ _ _ _ _ _ _ _ _ _ _ _ _ _ _ _ _)
      |(with_reducible exact ih1 _ _ _ _ _ _ _ _ _ _ _ _ _ _ _)
      |(with_reducible exact ih2 _ _ _ _ _ _)
      |(with_reducible exact laws_eqExtS.mono _ _ _)
      |(with_reducible exact laws_eqSource.mono _ _ _ _ _ _ _ _ _)
      |(with_reducible exact laws_heldSource.mono _ _ _ _ _ _)
      |(with_reducible exact laws_markExtS.mono _ _ _)
      |(with_reducible exact laws_markSource.mono _ _ _ _ _ _)
      |(with_reducible exact laws_toExtS.mono _ _)
      |(with_reducible exact laws_toSource.mono _ _ _ _ _)
      |(with_reducible exact spec_AbsorbExts.mono _ _ _ _ _ _)
      |(with_reducible exact LeO.refl _)
      |(with_reducible exact LeO.none _)
      |(with_reducible refine LeO.ite ?_ ?_)
      |(with_reducible refine LeO.bind ?_ (fun _=> ?_))
      |exact ih0 _ _ _ _ _ _ _ _ _ _ _ _ _ _ _ _ _ _ _ _ _
      |exact ih1 _ _ _ _ _ _ _ _ _ _ _ _ _ _ _
      |exact ih2 _ _ _ _ _ _
      |exact laws_eqExtS.mono _ _ _
      |exact laws_eqSource.mono _ _ _ _ _ _ _ _ _
      |exact laws_heldSource.mono _ _ _ _ _ _
      |exact laws_markExtS.mono _ _ _
      |exact laws_markSource.mono _ _ _ _ _ _
      |exact laws_toExtS.mono _ _
      |exact laws_toSource.mono _ _ _ _ _
      |exact spec_AbsorbExts.mono _ _ _ _ _ _
      |exact LeO.none _
      |refine LeO.ite ?_ ?_
      |refine LeO.bind ?_ (fun _=> ?_)
set_option maxHeartbeats 8000000 in
set_option maxRecDepth 100000 in
theorem laws_FnExactAbsorbExts.calls (k:Nat) (A0_0:Option Addr) (c0_0:Nat) (l0_0:List (S125)) (a0_1:Int) (a0_2:ByteArray) (a0_3:Int) (A1:Option Addr) (c1:Nat) (l1:List (S125)) (r:Bool) (w:World) (hr0_0:Kd.C k125 w A0_0 l0_0.length l0_0) (hc0_0:l0_0.length ≤ c0_0) (hr1:Kd.C k125 w A1 l1.length l1) (hc1:l1.length ≤ c1) (h:laws_FnExactAbsorbExts.f k l0_0 a0_1 a0_2 a0_3 l1=some r):
    Calls Try.prog 17 #[.agg #[.slice A0_0 l0_0.length c0_0,.int .i64 a0_1,.string a0_2,.int .i64 a0_3],.slice A1 l1.length c1] w fun e w'=> e= .returned (.bool r) ∧ Below w.heap.size w w':=by
  have hu61:=Try.underlying61
  have hu36:=Try.underlying36
  have HR0_0:=Aside0.mk hr0_0
  have HC0_0:=Aside0.mk hc0_0
  clear hr0_0 hc0_0
  have HR1:=Aside0.mk hr1
  have HC1:=Aside0.mk hc1
  clear hr1 hc1
  have HB:=Aside0.mk (Below.refl w.heap.size w)
  have H:((laws_szSource.f l0_0 a0_1 a0_2 a0_3 1048576).bind fun t555=> (if t555 < 0 then (some true) else ((laws_szExtS.f l1 t555).bind fun t556=> (if t556 < 0 then (some true) else ((laws_toSource.f k l0_0 a0_1 a0_2 a0_3).bind fun bt557=> ((laws_toExtS.f k l1).bind fun t563=> ((spec_AbsorbExts.f k bt557.1 bt557.2.1 bt557.2.2.1 bt557.2.2.2 t563).bind fun bt566=> ((laws_toSource.f k l0_0 a0_1 a0_2 a0_3).bind fun bt574=> ((laws_toExtS.f k l1).bind fun t581=> ((impl_AbsorbExts.f bt574.1 bt574.2.1 bt574.2.2.1 bt574.2.2.2 t581).bind fun bt584=> ((laws_eqSource.f k bt584.1 bt584.2.1 bt584.2.2.1 bt584.2.2.2.1 bt566.1 bt566.2.1 bt566.2.2.1 bt566.2.2.2.1).bind fun t592=> (if t592=true then (laws_FnExactAbsorbExts.j0 k l1 bt566.2.2.2.2 t581 bt584.2.2.2.2 (bt584.2.2.2.2 !=bt566.2.2.2.2) l0_0 a0_1 a0_2 a0_3 bt566.1 bt566.2.1 bt566.2.2.1 bt566.2.2.2.1 bt574.1 bt574.2.1 bt574.2.2.1 bt574.2.2.2 bt584.1 bt584.2.1 bt584.2.2.1 bt584.2.2.2.1) else (none)))))))))))))=some r:=h
  clear h
  replace H:=Option.bind_eq_some_iff.mp H
  obtain ⟨t555,A30,H⟩:=H
  replace H:(if t555 < 0 then (some true) else ((laws_szExtS.f l1 t555).bind fun t556=> (if t556 < 0 then (some true) else ((laws_toSource.f k l0_0 a0_1 a0_2 a0_3).bind fun bt557=> ((laws_toExtS.f k l1).bind fun t563=> ((spec_AbsorbExts.f k bt557.1 bt557.2.1 bt557.2.2.1 bt557.2.2.2 t563).bind fun bt566=> ((laws_toSource.f k l0_0 a0_1 a0_2 a0_3).bind fun bt574=> ((laws_toExtS.f k l1).bind fun t581=> ((impl_AbsorbExts.f bt574.1 bt574.2.1 bt574.2.2.1 bt574.2.2.2 t581).bind fun bt584=> ((laws_eqSource.f k bt584.1 bt584.2.1 bt584.2.2.1 bt584.2.2.2.1 bt566.1 bt566.2.1 bt566.2.2.1 bt566.2.2.2.1).bind fun t592=> (if t592=true then (laws_FnExactAbsorbExts.j0 k l1 bt566.2.2.2.2 t581 bt584.2.2.2.2 (bt584.2.2.2.2 !=bt566.2.2.2.2) l0_0 a0_1 a0_2 a0_3 bt566.1 bt566.2.1 bt566.2.2.1 bt566.2.2.2.1 bt574.1 bt574.2.1 bt574.2.2.1 bt574.2.2.2 bt584.1 bt584.2.1 bt584.2.2.1 bt584.2.2.2.1) else (none))))))))))))=some r:=H
  have A3:=Aside0.mk A30
  clear A30
  by_cases c4:t555 < 0
  · rw [if_pos c4] at H
    have c4b0:decide (t555 < 0)=true:=decide_eq_true c4
    clear c4
    obtain rfl:=Option.some.inj H
    go_enter Try.func17,Try.ntmps17
    go_wp2_with (first|((with_reducible refine gate_dst (N:=2) rfl ?_);refine box_event ?hg (N:=2) ?hd (cs:= #[.slice A0_0 l0_0.length c0_0,.int .i64 a0_1,.string a0_2,.int .i64 a0_3]) (t:=61) ?hr ?_;(case hd=> rfl);(case hg=> rfl);(case hr=> first|(go_simp;done)|(go_simp;rfl));intro gb554 hg w5 hbox hb;have n0_:=Aside0.mk (below_step (by repeat (first|(with_reducible first|exact HB.out|apply below_alloc|apply pw_below_drewN|apply below_drew1)|exact HB.out)) hb);have n1_:=Aside0.mk (hbox);have n2_:=Aside0.mk ((by rw [hg];exact (below_size (by repeat (first|(with_reducible first|exact HB.out|apply below_alloc|apply pw_below_drewN|apply below_drew1)|exact HB.out))):w.heap.size ≤ gb554));have n3_:=Aside0.mk ((by rw [hg];exact (below_size (by repeat (first|(with_reducible first|exact HB.out|apply below_alloc|apply pw_below_drewN|apply below_drew1)|exact HB.out))):w.heap.size ≤ gb554));clear HB;have HB:=n0_;have BK554:=n1_;have GW554:=n2_;have GE554:=n3_;clear n0_ n1_ n2_ n3_;clear hb hbox hg;have hcz6_0:w5.cell? ⟨gb554,0,none⟩=some (.slice A0_0 l0_0.length c0_0):=(blk_cell BK554.out 0).trans rfl;have hcz6_1:w5.cell? ⟨gb554,1,none⟩=some (.int .i64 a0_1):=(blk_cell BK554.out 1).trans rfl;have hcz6_2:w5.cell? ⟨gb554,2,none⟩=some (.string a0_2):=(blk_cell BK554.out 2).trans rfl;have hcz6_3:w5.cell? ⟨gb554,3,none⟩=some (.int .i64 a0_3):=(blk_cell BK554.out 3).trans rfl;have hfz6_0:=blk_frozen BK554.out 0;have hfz6_1:=blk_frozen BK554.out 1;have hfz6_2:=blk_frozen BK554.out 2;have hfz6_3:=blk_frozen BK554.out 3)|((with_reducible refine gate_callee (f:=53) rfl ?_);refine goesL_ (some 19) rfl rfl Try.func53 (by kernel_rfl) rfl #[.agg #[.slice A0_0 l0_0.length c0_0,.int .i64 a0_1,.string a0_2,.int .i64 a0_3],.int .i64 1048576] rfl (by (try simp only [List.map_toArray,List.map_cons,List.map_nil]);first|done|rfl|(simp only [List.length_drop,List.length_take];rfl)) ?_;(with_reducible refine (laws_szSource.calls _ _ l0_0 a0_1 a0_2 a0_3 1048576 t555 _ ?side1 ?side2 A3.out).mono ?_);(case side1=> repeat (first|exact (Kd.C_below HR0_0.out HB.out)|(with_reducible refine Kd.C_alloc ?_ _)|(with_reducible refine Kd.C_drewN ?_ _)|(with_reducible refine Kd.C_drew ?_)));(case side2=> exact HC0_0.out);rintro e w7 ⟨rfl,hb⟩;refine ⟨_,rfl,?_⟩;have n0_:=Aside0.mk (blk_below (g:=gb554) (o:= .cells #[.slice A0_0 l0_0.length c0_0,.int .i64 a0_1,.string a0_2,.int .i64 a0_3] 61 (0,0)) (by (with_reducible repeat (first|apply bN|apply bd|apply bA));exact BK554.out) hb);have n1_:=Aside0.mk (below_step (by repeat (first|(with_reducible first|exact HB.out|apply below_alloc|apply pw_below_drewN|apply below_drew1|refine below_set ?_ GE554.out)|exact HB.out)) hb);clear BK554;clear HB;have BK554:=n0_;have HB:=n1_;clear n0_ n1_;(try clear hb);(try clear hb2);(try clear hk);(try clear hi)))
    go_ret
    exact ⟨by first|rfl|(simp [errW_none,errW_some] <;> rfl)|(simp [*,errW_none,errW_some] <;> rfl),by repeat (first|(with_reducible first|exact HB.out|apply below_alloc|apply pw_below_drewN|apply below_drew1|refine below_set ?_ GE554.out)|exact HB.out)⟩
  · rw [if_neg c4] at H
    have c4b0:decide (t555 < 0)=false:=decide_eq_false c4
    clear c4
    replace H:=Option.bind_eq_some_iff.mp H
    obtain ⟨t556,A80,H⟩:=H
    replace H:(if t556 < 0 then (some true) else ((laws_toSource.f k l0_0 a0_1 a0_2 a0_3).bind fun bt557=> ((laws_toExtS.f k l1).bind fun t563=> ((spec_AbsorbExts.f k bt557.1 bt557.2.1 bt557.2.2.1 bt557.2.2.2 t563).bind fun bt566=> ((laws_toSource.f k l0_0 a0_1 a0_2 a0_3).bind fun bt574=> ((laws_toExtS.f k l1).bind fun t581=> ((impl_AbsorbExts.f bt574.1 bt574.2.1 bt574.2.2.1 bt574.2.2.2 t581).bind fun bt584=> ((laws_eqSource.f k bt584.1 bt584.2.1 bt584.2.2.1 bt584.2.2.2.1 bt566.1 bt566.2.1 bt566.2.2.1 bt566.2.2.2.1).bind fun t592=> (if t592=true then (laws_FnExactAbsorbExts.j0 k l1 bt566.2.2.2.2 t581 bt584.2.2.2.2 (bt584.2.2.2.2 !=bt566.2.2.2.2) l0_0 a0_1 a0_2 a0_3 bt566.1 bt566.2.1 bt566.2.2.1 bt566.2.2.2.1 bt574.1 bt574.2.1 bt574.2.2.1 bt574.2.2.2 bt584.1 bt584.2.1 bt584.2.2.1 bt584.2.2.2.1) else (none))))))))))=some r:=H
    have A8:=Aside0.mk A80
    clear A80
    by_cases c9:t556 < 0
    · rw [if_pos c9] at H
      have c9b0:decide (t556 < 0)=true:=decide_eq_true c9
      clear c9
      obtain rfl:=Option.some.inj H
      go_enter Try.func17,Try.ntmps17
      go_wp2_with (first|((with_reducible refine gate_dst (N:=2) rfl ?_);refine box_event ?hg (N:=2) ?hd (cs:= #[.slice A0_0 l0_0.length c0_0,.int .i64 a0_1,.string a0_2,.int .i64 a0_3]) (t:=61) ?hr ?_;(case hd=> rfl);(case hg=> rfl);(case hr=> first|(go_simp;done)|(go_simp;rfl));intro gb554 hg w10 hbox hb;have n0_:=Aside0.mk (below_step (by repeat (first|(with_reducible first|exact HB.out|apply below_alloc|apply pw_below_drewN|apply below_drew1)|exact HB.out)) hb);have n1_:=Aside0.mk (hbox);have n2_:=Aside0.mk ((by rw [hg];exact (below_size (by repeat (first|(with_reducible first|exact HB.out|apply below_alloc|apply pw_below_drewN|apply below_drew1)|exact HB.out))):w.heap.size ≤ gb554));have n3_:=Aside0.mk ((by rw [hg];exact (below_size (by repeat (first|(with_reducible first|exact HB.out|apply below_alloc|apply pw_below_drewN|apply below_drew1)|exact HB.out))):w.heap.size ≤ gb554));clear HB;have HB:=n0_;have BK554:=n1_;have GW554:=n2_;have GE554:=n3_;clear n0_ n1_ n2_ n3_;clear hb hbox hg;have hcz11_0:w10.cell? ⟨gb554,0,none⟩=some (.slice A0_0 l0_0.length c0_0):=(blk_cell BK554.out 0).trans rfl;have hcz11_1:w10.cell? ⟨gb554,1,none⟩=some (.int .i64 a0_1):=(blk_cell BK554.out 1).trans rfl;have hcz11_2:w10.cell? ⟨gb554,2,none⟩=some (.string a0_2):=(blk_cell BK554.out 2).trans rfl;have hcz11_3:w10.cell? ⟨gb554,3,none⟩=some (.int .i64 a0_3):=(blk_cell BK554.out 3).trans rfl;have hfz11_0:=blk_frozen BK554.out 0;have hfz11_1:=blk_frozen BK554.out 1;have hfz11_2:=blk_frozen BK554.out 2;have hfz11_3:=blk_frozen BK554.out 3)|((with_reducible refine gate_callee (f:=53) rfl ?_);refine goesL_ (some 19) rfl rfl Try.func53 (by kernel_rfl) rfl #[.agg #[.slice A0_0 l0_0.length c0_0,.int .i64 a0_1,.string a0_2,.int .i64 a0_3],.int .i64 1048576] rfl (by (try simp only [List.map_toArray,List.map_cons,List.map_nil]);first|done|rfl|(simp only [List.length_drop,List.length_take];rfl)) ?_;(with_reducible refine (laws_szSource.calls _ _ l0_0 a0_1 a0_2 a0_3 1048576 t555 _ ?side1 ?side2 A3.out).mono ?_);(case side1=> repeat (first|exact (Kd.C_below HR0_0.out HB.out)|(with_reducible refine Kd.C_alloc ?_ _)|(with_reducible refine Kd.C_drewN ?_ _)|(with_reducible refine Kd.C_drew ?_)));(case side2=> exact HC0_0.out);rintro e w12 ⟨rfl,hb⟩;refine ⟨_,rfl,?_⟩;have n0_:=Aside0.mk (blk_below (g:=gb554) (o:= .cells #[.slice A0_0 l0_0.length c0_0,.int .i64 a0_1,.string a0_2,.int .i64 a0_3] 61 (0,0)) (by (with_reducible repeat (first|apply bN|apply bd|apply bA));exact BK554.out) hb);have n1_:=Aside0.mk (below_step (by repeat (first|(with_reducible first|exact HB.out|apply below_alloc|apply pw_below_drewN|apply below_drew1|refine below_set ?_ GE554.out)|exact HB.out)) hb);clear BK554;clear HB;have BK554:=n0_;have HB:=n1_;clear n0_ n1_;(try clear hb);(try clear hb2);(try clear hk);(try clear hi))|((with_reducible refine gate_callee (f:=59) rfl ?_);refine goesL_ (some 24) rfl rfl Try.func59 (by kernel_rfl) rfl #[.slice A1 l1.length c1,.int .i64 t555] rfl (by (try simp only [List.map_toArray,List.map_cons,List.map_nil]);first|done|rfl|(simp only [List.length_drop,List.length_take];rfl)) ?_;(with_reducible refine (laws_szExtS.calls _ _ l1 t555 t556 _ ?side1 ?side2 A8.out).mono ?_);(case side1=> repeat (first|exact (Kd.C_below HR1.out HB.out)|(with_reducible refine Kd.C_alloc ?_ _)|(with_reducible refine Kd.C_drewN ?_ _)|(with_reducible refine Kd.C_drew ?_)));(case side2=> exact HC1.out);rintro e w' ⟨rfl,⟨nd,rfl⟩⟩;refine ⟨_,rfl,?_⟩))
      go_ret
      exact ⟨by first|rfl|(simp [errW_none,errW_some] <;> rfl)|(simp [*,errW_none,errW_some] <;> rfl),by repeat (first|(with_reducible first|exact HB.out|apply below_alloc|apply pw_below_drewN|apply below_drew1|refine below_set ?_ GE554.out)|exact HB.out)⟩
    · rw [if_neg c9] at H
      have c9b0:decide (t556 < 0)=false:=decide_eq_false c9
      clear c9
      replace H:=Option.bind_eq_some_iff.mp H
      obtain ⟨⟨t557,t560,t561,t562⟩,A130,H⟩:=H
      replace H:((laws_toExtS.f k l1).bind fun t563=> ((spec_AbsorbExts.f k t557 t560 t561 t562 t563).bind fun bt566=> ((laws_toSource.f k l0_0 a0_1 a0_2 a0_3).bind fun bt574=> ((laws_toExtS.f k l1).bind fun t581=> ((impl_AbsorbExts.f bt574.1 bt574.2.1 bt574.2.2.1 bt574.2.2.2 t581).bind fun bt584=> ((laws_eqSource.f k bt584.1 bt584.2.1 bt584.2.2.1 bt584.2.2.2.1 bt566.1 bt566.2.1 bt566.2.2.1 bt566.2.2.2.1).bind fun t592=> (if t592=true then (laws_FnExactAbsorbExts.j0 k l1 bt566.2.2.2.2 t581 bt584.2.2.2.2 (bt584.2.2.2.2 !=bt566.2.2.2.2) l0_0 a0_1 a0_2 a0_3 bt566.1 bt566.2.1 bt566.2.2.1 bt566.2.2.2.1 bt574.1 bt574.2.1 bt574.2.2.1 bt574.2.2.2 bt584.1 bt584.2.1 bt584.2.2.1 bt584.2.2.2.1) else (none))))))))=some r:=H
      have A13:=Aside0.mk A130
      clear A130
      replace H:=Option.bind_eq_some_iff.mp H
      obtain ⟨t563,A140,H⟩:=H
      replace H:((spec_AbsorbExts.f k t557 t560 t561 t562 t563).bind fun bt566=> ((laws_toSource.f k l0_0 a0_1 a0_2 a0_3).bind fun bt574=> ((laws_toExtS.f k l1).bind fun t581=> ((impl_AbsorbExts.f bt574.1 bt574.2.1 bt574.2.2.1 bt574.2.2.2 t581).bind fun bt584=> ((laws_eqSource.f k bt584.1 bt584.2.1 bt584.2.2.1 bt584.2.2.2.1 bt566.1 bt566.2.1 bt566.2.2.1 bt566.2.2.2.1).bind fun t592=> (if t592=true then (laws_FnExactAbsorbExts.j0 k l1 bt566.2.2.2.2 t581 bt584.2.2.2.2 (bt584.2.2.2.2 !=bt566.2.2.2.2) l0_0 a0_1 a0_2 a0_3 bt566.1 bt566.2.1 bt566.2.2.1 bt566.2.2.2.1 bt574.1 bt574.2.1 bt574.2.2.1 bt574.2.2.2 bt584.1 bt584.2.1 bt584.2.2.1 bt584.2.2.2.1) else (none)))))))=some r:=H
      have A14:=Aside0.mk A140
      clear A140
      replace H:=Option.bind_eq_some_iff.mp H
      obtain ⟨⟨t566,t569,t570,t571,t572⟩,A150,H⟩:=H
      replace H:((laws_toSource.f k l0_0 a0_1 a0_2 a0_3).bind fun bt574=> ((laws_toExtS.f k l1).bind fun t581=> ((impl_AbsorbExts.f bt574.1 bt574.2.1 bt574.2.2.1 bt574.2.2.2 t581).bind fun bt584=> ((laws_eqSource.f k bt584.1 bt584.2.1 bt584.2.2.1 bt584.2.2.2.1 t566 t569 t570 t571).bind fun t592=> (if t592=true then (laws_FnExactAbsorbExts.j0 k l1 t572 t581 bt584.2.2.2.2 (bt584.2.2.2.2 !=t572) l0_0 a0_1 a0_2 a0_3 t566 t569 t570 t571 bt574.1 bt574.2.1 bt574.2.2.1 bt574.2.2.2 bt584.1 bt584.2.1 bt584.2.2.1 bt584.2.2.2.1) else (none))))))=some r:=H
      have A15:=Aside0.mk A150
      clear A150
      replace H:=Option.bind_eq_some_iff.mp H
      obtain ⟨⟨t574,t577,t578,t579⟩,A160,H⟩:=H
      replace H:((laws_toExtS.f k l1).bind fun t581=> ((impl_AbsorbExts.f t574 t577 t578 t579 t581).bind fun bt584=> ((laws_eqSource.f k bt584.1 bt584.2.1 bt584.2.2.1 bt584.2.2.2.1 t566 t569 t570 t571).bind fun t592=> (if t592=true then (laws_FnExactAbsorbExts.j0 k l1 t572 t581 bt584.2.2.2.2 (bt584.2.2.2.2 !=t572) l0_0 a0_1 a0_2 a0_3 t566 t569 t570 t571 t574 t577 t578 t579 bt584.1 bt584.2.1 bt584.2.2.1 bt584.2.2.2.1) else (none)))))=some r:=H
      have A16:=Aside0.mk A160
      clear A160
      replace H:=Option.bind_eq_some_iff.mp H
      obtain ⟨t581,A170,H⟩:=H
      replace H:((impl_AbsorbExts.f t574 t577 t578 t579 t581).bind fun bt584=> ((laws_eqSource.f k bt584.1 bt584.2.1 bt584.2.2.1 bt584.2.2.2.1 t566 t569 t570 t571).bind fun t592=> (if t592=true then (laws_FnExactAbsorbExts.j0 k l1 t572 t581 bt584.2.2.2.2 (bt584.2.2.2.2 !=t572) l0_0 a0_1 a0_2 a0_3 t566 t569 t570 t571 t574 t577 t578 t579 bt584.1 bt584.2.1 bt584.2.2.1 bt584.2.2.2.1) else (none))))=some r:=H
      have A17:=Aside0.mk A170
      clear A170
      replace H:=Option.bind_eq_some_iff.mp H
      obtain ⟨⟨t584,t587,t588,t589,t590⟩,A180,H⟩:=H
      replace H:((laws_eqSource.f k t584 t587 t588 t589 t566 t569 t570 t571).bind fun t592=> (if t592=true then (laws_FnExactAbsorbExts.j0 k l1 t572 t581 t590 (t590 !=t572) l0_0 a0_1 a0_2 a0_3 t566 t569 t570 t571 t574 t577 t578 t579 t584 t587 t588 t589) else (none)))=some r:=H
      have A18:=Aside0.mk A180
      clear A180
      have HC19:=Aside0.mk H
      clear H
      go_enter Try.func17,Try.ntmps17
      go_upto_region 12 with (first|((with_reducible refine gate_dst (N:=2) rfl ?_);refine box_event ?hg (N:=2) ?hd (cs:= #[.slice A0_0 l0_0.length c0_0,.int .i64 a0_1,.string a0_2,.int .i64 a0_3]) (t:=61) ?hr ?_;(case hd=> rfl);(case hg=> rfl);(case hr=> first|(go_simp;done)|(go_simp;rfl));intro gb554 hg w20 hbox hb;have n0_:=Aside0.mk (below_step (by repeat (first|(with_reducible first|exact HB.out|apply below_alloc|apply pw_below_drewN|apply below_drew1)|exact HB.out)) hb);have n1_:=Aside0.mk (hbox);have n2_:=Aside0.mk ((by rw [hg];exact (below_size (by repeat (first|(with_reducible first|exact HB.out|apply below_alloc|apply pw_below_drewN|apply below_drew1)|exact HB.out))):w.heap.size ≤ gb554));have n3_:=Aside0.mk ((by rw [hg];exact (below_size (by repeat (first|(with_reducible first|exact HB.out|apply below_alloc|apply pw_below_drewN|apply below_drew1)|exact HB.out))):w.heap.size ≤ gb554));clear HB;have HB:=n0_;have BK554:=n1_;have GW554:=n2_;have GE554:=n3_;clear n0_ n1_ n2_ n3_;clear hb hbox hg;have hcz21_0:w20.cell? ⟨gb554,0,none⟩=some (.slice A0_0 l0_0.length c0_0):=(blk_cell BK554.out 0).trans rfl;have hcz21_1:w20.cell? ⟨gb554,1,none⟩=some (.int .i64 a0_1):=(blk_cell BK554.out 1).trans rfl;have hcz21_2:w20.cell? ⟨gb554,2,none⟩=some (.string a0_2):=(blk_cell BK554.out 2).trans rfl;have hcz21_3:w20.cell? ⟨gb554,3,none⟩=some (.int .i64 a0_3):=(blk_cell BK554.out 3).trans rfl;have hfz21_0:=blk_frozen BK554.out 0;have hfz21_1:=blk_frozen BK554.out 1;have hfz21_2:=blk_frozen BK554.out 2;have hfz21_3:=blk_frozen BK554.out 3)|((with_reducible refine gate_callee (f:=53) rfl ?_);refine goesL_ (some 19) rfl rfl Try.func53 (by kernel_rfl) rfl #[.agg #[.slice A0_0 l0_0.length c0_0,.int .i64 a0_1,.string a0_2,.int .i64 a0_3],.int .i64 1048576] rfl (by (try simp only [List.map_toArray,List.map_cons,List.map_nil]);first|done|rfl|(simp only [List.length_drop,List.length_take];rfl)) ?_;(with_reducible refine (laws_szSource.calls _ _ l0_0 a0_1 a0_2 a0_3 1048576 t555 _ ?side1 ?side2 A3.out).mono ?_);(case side1=> repeat (first|exact (Kd.C_below HR0_0.out HB.out)|(with_reducible refine Kd.C_alloc ?_ _)|(with_reducible refine Kd.C_drewN ?_ _)|(with_reducible refine Kd.C_drew ?_)));(case side2=> exact HC0_0.out);rintro e w22 ⟨rfl,hb⟩;refine ⟨_,rfl,?_⟩;have n0_:=Aside0.mk (blk_below (g:=gb554) (o:= .cells #[.slice A0_0 l0_0.length c0_0,.int .i64 a0_1,.string a0_2,.int .i64 a0_3] 61 (0,0)) (by (with_reducible repeat (first|apply bN|apply bd|apply bA));exact BK554.out) hb);have n1_:=Aside0.mk (below_step (by repeat (first|(with_reducible first|exact HB.out|apply below_alloc|apply pw_below_drewN|apply below_drew1|refine below_set ?_ GE554.out)|exact HB.out)) hb);clear BK554;clear HB;have BK554:=n0_;have HB:=n1_;clear n0_ n1_;(try clear hb);(try clear hb2);(try clear hk);(try clear hi))|((with_reducible refine gate_callee (f:=59) rfl ?_);refine goesL_ (some 24) rfl rfl Try.func59 (by kernel_rfl) rfl #[.slice A1 l1.length c1,.int .i64 t555] rfl (by (try simp only [List.map_toArray,List.map_cons,List.map_nil]);first|done|rfl|(simp only [List.length_drop,List.length_take];rfl)) ?_;(with_reducible refine (laws_szExtS.calls _ _ l1 t555 t556 _ ?side1 ?side2 A8.out).mono ?_);(case side1=> repeat (first|exact (Kd.C_below HR1.out HB.out)|(with_reducible refine Kd.C_alloc ?_ _)|(with_reducible refine Kd.C_drewN ?_ _)|(with_reducible refine Kd.C_drew ?_)));(case side2=> exact HC1.out);rintro e w' ⟨rfl,⟨nd,rfl⟩⟩;refine ⟨_,rfl,?_⟩;(try (rw [drewN_self w22];generalize hq_:World.drewN w22 _=w22;have n0_:Aside0 (w22.heap[gb554]?=some (.cells #[.slice A0_0 l0_0.length c0_0,.int .i64 a0_1,.string a0_2,.int .i64 a0_3] 61 (0,0))):=⟨by rw [← hq_];exact (by (with_reducible repeat (first|apply bN|apply bd|apply bA));exact BK554.out)⟩;have n1_:Aside0 (Below w.heap.size w w22):=⟨by rw [← hq_];exact (by repeat (first|(with_reducible first|exact HB.out|apply below_alloc|apply pw_below_drewN|apply below_drew1|refine below_set ?_ GE554.out)|exact HB.out))⟩;clear BK554 HB hq_;have BK554:=n0_;have HB:=n1_;clear n0_ n1_));have hcz23_0:w22.cell? ⟨gb554,0,none⟩=some (.slice A0_0 l0_0.length c0_0):=(blk_cell BK554.out 0).trans rfl;have hcz23_1:w22.cell? ⟨gb554,1,none⟩=some (.int .i64 a0_1):=(blk_cell BK554.out 1).trans rfl;have hcz23_2:w22.cell? ⟨gb554,2,none⟩=some (.string a0_2):=(blk_cell BK554.out 2).trans rfl;have hcz23_3:w22.cell? ⟨gb554,3,none⟩=some (.int .i64 a0_3):=(blk_cell BK554.out 3).trans rfl;have hfz23_0:=blk_frozen BK554.out 0;have hfz23_1:=blk_frozen BK554.out 1;have hfz23_2:=blk_frozen BK554.out 2;have hfz23_3:=blk_frozen BK554.out 3)|((with_reducible refine gate_callee (f:=55) rfl ?_);refine goesL_ (some 29) rfl rfl Try.func55 (by kernel_rfl) rfl #[.agg #[.slice A0_0 l0_0.length c0_0,.int .i64 a0_1,.string a0_2,.int .i64 a0_3]] rfl (by (try simp only [List.map_toArray,List.map_cons,List.map_nil]);first|done|rfl|(simp only [List.length_drop,List.length_take];rfl)) ?_;(with_reducible refine (laws_toSource.calls k _ _ l0_0 a0_1 a0_2 a0_3 t557 t560 t561 t562 _ ?side1 ?side2 A13.out).mono ?_);(case side1=> repeat (first|exact (Kd.C_below HR0_0.out HB.out)|(with_reducible refine Kd.C_alloc ?_ _)|(with_reducible refine Kd.C_drewN ?_ _)|(with_reducible refine Kd.C_drew ?_)));(case side2=> exact HC0_0.out);rintro e w24 ⟨v558,rfl,ho0,hb⟩;refine ⟨_,rfl,?_⟩;have n0_:=Aside0.mk (Kd.R_lower ho0 (below_size (by repeat (first|(with_reducible first|exact HB.out|apply below_alloc|apply pw_below_drewN|apply below_drew1|refine below_set ?_ GE554.out)|exact HB.out))));have n1_:=Aside0.mk (blk_below (g:=gb554) (o:= .cells #[.slice A0_0 l0_0.length c0_0,.int .i64 a0_1,.string a0_2,.int .i64 a0_3] 61 (0,0)) (by (with_reducible repeat (first|apply bN|apply bd|apply bA));exact BK554.out) hb);have n2_:=Aside0.mk (below_step (by repeat (first|(with_reducible first|exact HB.out|apply below_alloc|apply pw_below_drewN|apply below_drew1|refine below_set ?_ GE554.out)|exact HB.out)) hb);clear BK554;clear HB;have HO559:=n0_;have BK554:=n1_;have HB:=n2_;clear n0_ n1_ n2_;(try clear hb);(try clear hb2);(try clear hk);(try clear hi);(try clear ho0))|((with_reducible refine gate_callee (f:=61) rfl ?_);refine goesL_ (some 31) rfl rfl Try.func61 (by kernel_rfl) rfl #[.slice A1 l1.length c1] rfl (by (try simp only [List.map_toArray,List.map_cons,List.map_nil]);first|done|rfl|(simp only [List.length_drop,List.length_take];rfl)) ?_;(with_reducible refine (laws_toExtS.calls k _ _ l1 t563 _ ?side1 ?side2 A14.out).mono ?_);(case side1=> repeat (first|exact (Kd.C_below HR1.out HB.out)|(with_reducible refine Kd.C_alloc ?_ _)|(with_reducible refine Kd.C_drewN ?_ _)|(with_reducible refine Kd.C_drew ?_)));(case side2=> exact HC1.out);rintro e w25 ⟨v564,rfl,ho0,hb⟩;refine ⟨_,rfl,?_⟩;have n0_:=Aside0.mk (Kd.R_elder' (by (with_reducible repeat (first|apply Kd.R_alloc|apply Kd.R_drewN|apply Kd.R_drew));exact HO559.out) (Kd.R_base ho0) hb);have n1_:=Aside0.mk (Kd.R_lower (Kd.R_new' ho0 (Kd.R_lt (by (with_reducible repeat (first|apply Kd.R_alloc|apply Kd.R_drewN|apply Kd.R_drew));exact HO559.out))) (below_size (by repeat (first|(with_reducible first|exact HB.out|apply below_alloc|apply pw_below_drewN|apply below_drew1|refine below_set ?_ GE554.out)|exact HB.out))));have n2_:=Aside0.mk (blk_below (g:=gb554) (o:= .cells #[.slice A0_0 l0_0.length c0_0,.int .i64 a0_1,.string a0_2,.int .i64 a0_3] 61 (0,0)) (by (with_reducible repeat (first|apply bN|apply bd|apply bA));exact BK554.out) hb);have n3_:=Aside0.mk (below_step (by repeat (first|(with_reducible first|exact HB.out|apply below_alloc|apply pw_below_drewN|apply below_drew1|refine below_set ?_ GE554.out)|exact HB.out)) hb);clear HO559;clear BK554;clear HB;have HO559:=n0_;have HO565:=n1_;have BK554:=n2_;have HB:=n3_;clear n0_ n1_ n2_ n3_;(try clear hb);(try clear hb2);(try clear hk);(try clear hi);(try clear ho0);obtain ⟨Ao26,co26,eo26⟩:=Kd.R_slice HO559.out;subst eo26;obtain ⟨Ao27,co27,eo27⟩:=Kd.R_slice HO565.out;subst eo27)|((with_reducible refine gate_callee (f:=67) rfl ?_);refine goesL_ (some 32) rfl rfl Try.func67 (by kernel_rfl) rfl #[.agg #[.slice Ao26 t557.length co26,.int .i64 t560,.string t561,.int .i64 t562],.slice Ao27 t563.length co27] rfl (by (try simp only [List.map_toArray,List.map_cons,List.map_nil]);first|done|rfl|(simp only [List.length_drop,List.length_take];rfl)) ?_;(with_reducible refine (spec_AbsorbExts.calls k (fun k_=> some k_=(.slice Ao26 t557.length co26:Value).ownBlock) (.slice Ao26 t557.length co26) t557 t560 t561 t562 _ _ t563 t566 t569 t570 t571 t572 w _ ?side1 ?side2 ?side3 ?side4 A15.out).mono ?_);(case side1=> repeat (first|(with_reducible first|exact HB.out|apply below_alloc|apply pw_below_drewN|apply below_drew1|refine below_set ?_ GE554.out)|exact HB.out));(case side2=> exact Kd.R_tight rfl HO559.out);(case side3=> exact Kd.C_kept_own (HO565.out) (fun k_ hk_ hs_=> (hk_.2) hs_));(case side4=> exact (Kd.R_reads' HO565.out).2.1);rintro e w28 ⟨v567,rfl,ho0,hb,hkp⟩;refine ⟨_,rfl,?_⟩;have n0_:=Aside0.mk (blk_kept (by (with_reducible repeat (first|apply bN|apply bd|apply bA));exact BK554.out) hkp (fun hs_=> (fun e_=> (Kd.R_ne HO559.out BK554.out (by decide)) e_) hs_));have n1_:=Aside0.mk (Kd.R_mono (ok':=fun k_=> some k_ ≠ (v567:Value).ownBlock) (Kd.R_keptB (HO565.out) hkp (fun k_ hk_ hs_=> (hk_.2) hs_)) (fun k_ hk_=> fun e_=> Or.elim (ho0.1 k_ e_.symm) (fun hs_=> hk_.2.1 hs_) (fun hn_=> Nat.not_le.2 hk_.2.2 hn_)));have n2_:=Aside0.mk (Kd.R_mono (ok':=fun k_=> some k_ ≠ (.slice Ao27 t563.length co27:Value).ownBlock) ho0 (fun k_ hk_=> Or.elim hk_ (fun hs_=> fun e_=> (((HO565.out).1 k_ e_.symm).2) hs_) (fun hn_=> (Kd.fresh' (Kd.R_lt (by (with_reducible repeat (first|apply Kd.R_alloc|apply Kd.R_drewN|apply Kd.R_drew));exact HO565.out)) k_ hn_))));have n3_:=Aside0.mk (hb);clear BK554;clear HO565;clear HB;clear HO559;have BK554:=n0_;have HO565:=n1_;have HO568:=n2_;have HB:=n3_;clear n0_ n1_ n2_ n3_;(try clear hb);(try clear hkp);(try clear ho0))|((with_reducible refine gate_dst (N:=6) rfl ?_);refine box_event ?hg (N:=6) ?hd (cs:= #[.slice none 0 0,.int .i64 0,.string (⟨#[]⟩:ByteArray),.int .i64 0]) (t:=36) ?hr ?_;(case hd=> rfl);(case hg=> rfl);(case hr=> first|(go_simp;done)|(go_simp;rfl));intro gb573 hg w29 hbox hb;have n0_:=Aside0.mk (Kd.R_below (by (with_reducible repeat (first|apply Kd.R_alloc|apply Kd.R_drewN|apply Kd.R_drew));exact HO565.out) hb);have n1_:=Aside0.mk (Kd.R_below (by (with_reducible repeat (first|apply Kd.R_alloc|apply Kd.R_drewN|apply Kd.R_drew));exact HO568.out) hb);have n2_:=Aside0.mk (blk_below (g:=gb554) (o:= .cells #[.slice A0_0 l0_0.length c0_0,.int .i64 a0_1,.string a0_2,.int .i64 a0_3] 61 (0,0)) (by (with_reducible repeat (first|apply bN|apply bd|apply bA));exact BK554.out) hb);have n3_:=Aside0.mk (below_step (by repeat (first|(with_reducible first|exact HB.out|apply below_alloc|apply pw_below_drewN|apply below_drew1|refine below_set ?_ GE554.out)|exact HB.out)) hb);have n4_:=Aside0.mk (hbox);have n5_:=Aside0.mk ((by rw [hg];exact (below_size (by repeat (first|(with_reducible first|exact HB.out|apply below_alloc|apply pw_below_drewN|apply below_drew1|refine below_set ?_ GE554.out)|exact HB.out))):w.heap.size ≤ gb573));have n6_:=Aside0.mk ((by rw [hg];exact (below_size (by repeat (first|(with_reducible first|exact HB.out|apply below_alloc|apply pw_below_drewN|apply below_drew1|refine below_set ?_ GE554.out)|exact HB.out))):w.heap.size ≤ gb573));have n7_:=Aside0.mk ((by rw [hg];exact Nat.ne_of_lt (blk_lt (g:=gb554) (o:= .cells #[.slice A0_0 l0_0.length c0_0,.int .i64 a0_1,.string a0_2,.int .i64 a0_3] 61 (0,0)) (by (with_reducible repeat (first|apply bN|apply bd|apply bA));exact BK554.out)):gb554 ≠ gb573));have n8_:=Aside0.mk ((by rw [hg];exact Nat.ne_of_gt (blk_lt (g:=gb554) (o:= .cells #[.slice A0_0 l0_0.length c0_0,.int .i64 a0_1,.string a0_2,.int .i64 a0_3] 61 (0,0)) (by (with_reducible repeat (first|apply bN|apply bd|apply bA));exact BK554.out)):gb573 ≠ gb554));clear HO565;clear HO568;clear BK554;clear HB;have HO565:=n0_;have HO568:=n1_;have BK554:=n2_;have HB:=n3_;have BK573:=n4_;have GW573:=n5_;have GE573:=n6_;have NB554_573:=n7_;have NB573_554:=n8_;clear n0_ n1_ n2_ n3_ n4_ n5_ n6_ n7_ n8_;clear hb hbox hg;obtain ⟨Ao30,co30,eo30⟩:=Kd.R_slice HO568.out;subst eo30;have hnb31:=NB573_554.out;have hnc31:=NB554_573.out;have hcz32_0:w29.cell? ⟨gb573,0,none⟩=some (.slice none 0 0):=(blk_cell BK573.out 0).trans rfl;have hcz32_1:w29.cell? ⟨gb573,1,none⟩=some (.int .i64 0):=(blk_cell BK573.out 1).trans rfl;have hcz32_2:w29.cell? ⟨gb573,2,none⟩=some (.string (⟨#[]⟩:ByteArray)):=(blk_cell BK573.out 2).trans rfl;have hcz32_3:w29.cell? ⟨gb573,3,none⟩=some (.int .i64 0):=(blk_cell BK573.out 3).trans rfl;have hfz32_0:=blk_frozen BK573.out 0;have hfz32_1:=blk_frozen BK573.out 1;have hfz32_2:=blk_frozen BK573.out 2;have hfz32_3:=blk_frozen BK573.out 3;have hcz33_0:w29.cell? ⟨gb554,0,none⟩=some (.slice A0_0 l0_0.length c0_0):=(blk_cell BK554.out 0).trans rfl;have hcz33_1:w29.cell? ⟨gb554,1,none⟩=some (.int .i64 a0_1):=(blk_cell BK554.out 1).trans rfl;have hcz33_2:w29.cell? ⟨gb554,2,none⟩=some (.string a0_2):=(blk_cell BK554.out 2).trans rfl;have hcz33_3:w29.cell? ⟨gb554,3,none⟩=some (.int .i64 a0_3):=(blk_cell BK554.out 3).trans rfl;have hfz33_0:=blk_frozen BK554.out 0;have hfz33_1:=blk_frozen BK554.out 1;have hfz33_2:=blk_frozen BK554.out 2;have hfz33_3:=blk_frozen BK554.out 3)|((with_reducible refine gate_callee (f:=55) rfl ?_);refine goesL_ (some 36) rfl rfl Try.func55 (by kernel_rfl) rfl #[.agg #[.slice A0_0 l0_0.length c0_0,.int .i64 a0_1,.string a0_2,.int .i64 a0_3]] rfl (by (try simp only [List.map_toArray,List.map_cons,List.map_nil]);first|done|rfl|(simp only [List.length_drop,List.length_take];rfl)) ?_;(with_reducible refine (laws_toSource.calls k _ _ l0_0 a0_1 a0_2 a0_3 t574 t577 t578 t579 _ ?side1 ?side2 A16.out).mono ?_);(case side1=> exact Kd.C_below HR0_0.out (by repeat (first|(with_reducible first|exact HB.out|apply below_alloc|apply pw_below_drewN|apply below_drew1|refine below_set ?_ GE554.out|refine below_set ?_ GE573.out)|exact HB.out)));(case side2=> exact HC0_0.out);rintro e w34 ⟨v575,rfl,ho0,hb⟩;refine ⟨_,rfl,?_⟩;have n0_:=Aside0.mk (Kd.R_elder' (by (with_reducible repeat (first|apply Kd.R_alloc|apply Kd.R_drewN|apply Kd.R_drew));exact (Kd.R_mono (Kd.R_far (p:=⟨gb573,3,none⟩) (Kd.R_far (p:=⟨gb573,2,none⟩) (Kd.R_far (p:=⟨gb573,1,none⟩) (Kd.R_far (p:=⟨gb573,0,none⟩) (Kd.R_types HO565.out BK573.out (by decide)) (fun _ hk=> hk.2) (.slice Ao30 t566.length co30)) (fun _ hk=> hk.2) (.int .i64 t569)) (fun _ hk=> hk.2) (.string t570)) (fun _ hk=> hk.2) (.int .i64 t571)) (fun _ h_=> h_.1))) (Kd.R_base ho0) hb);have n1_:=Aside0.mk (Kd.R_elder' (by (with_reducible repeat (first|apply Kd.R_alloc|apply Kd.R_drewN|apply Kd.R_drew));exact (Kd.R_mono (Kd.R_far (p:=⟨gb573,3,none⟩) (Kd.R_far (p:=⟨gb573,2,none⟩) (Kd.R_far (p:=⟨gb573,1,none⟩) (Kd.R_far (p:=⟨gb573,0,none⟩) (Kd.R_types HO568.out BK573.out (by decide)) (fun _ hk=> hk.2) (.slice Ao30 t566.length co30)) (fun _ hk=> hk.2) (.int .i64 t569)) (fun _ hk=> hk.2) (.string t570)) (fun _ hk=> hk.2) (.int .i64 t571)) (fun _ h_=> h_.1))) (Kd.R_base ho0) hb);have n2_:=Aside0.mk (Kd.R_lower (Kd.R_new' (Kd.R_new' ho0 (Kd.R_lt (by (with_reducible repeat (first|apply Kd.R_alloc|apply Kd.R_drewN|apply Kd.R_drew));exact (Kd.R_mono (Kd.R_far (p:=⟨gb573,3,none⟩) (Kd.R_far (p:=⟨gb573,2,none⟩) (Kd.R_far (p:=⟨gb573,1,none⟩) (Kd.R_far (p:=⟨gb573,0,none⟩) (Kd.R_types HO565.out BK573.out (by decide)) (fun _ hk=> hk.2) (.slice Ao30 t566.length co30)) (fun _ hk=> hk.2) (.int .i64 t569)) (fun _ hk=> hk.2) (.string t570)) (fun _ hk=> hk.2) (.int .i64 t571)) (fun _ h_=> h_.1))))) (Kd.R_lt (by (with_reducible repeat (first|apply Kd.R_alloc|apply Kd.R_drewN|apply Kd.R_drew));exact (Kd.R_mono (Kd.R_far (p:=⟨gb573,3,none⟩) (Kd.R_far (p:=⟨gb573,2,none⟩) (Kd.R_far (p:=⟨gb573,1,none⟩) (Kd.R_far (p:=⟨gb573,0,none⟩) (Kd.R_types HO568.out BK573.out (by decide)) (fun _ hk=> hk.2) (.slice Ao30 t566.length co30)) (fun _ hk=> hk.2) (.int .i64 t569)) (fun _ hk=> hk.2) (.string t570)) (fun _ hk=> hk.2) (.int .i64 t571)) (fun _ h_=> h_.1))))) (below_size (by repeat (first|(with_reducible first|exact HB.out|apply below_alloc|apply pw_below_drewN|apply below_drew1|refine below_set ?_ GE554.out|refine below_set ?_ GE573.out)|exact HB.out))));have n3_:=Aside0.mk (blk_below (g:=gb554) (o:= .cells #[.slice A0_0 l0_0.length c0_0,.int .i64 a0_1,.string a0_2,.int .i64 a0_3] 61 (0,0)) (by (with_reducible repeat (first|apply bN|apply bd|apply bA));refine blk_far ?_ NB554_573.out _;(with_reducible repeat (first|apply bN|apply bd|apply bA));refine blk_far ?_ NB554_573.out _;(with_reducible repeat (first|apply bN|apply bd|apply bA));refine blk_far ?_ NB554_573.out _;(with_reducible repeat (first|apply bN|apply bd|apply bA));refine blk_far ?_ NB554_573.out _;(with_reducible repeat (first|apply bN|apply bd|apply bA));exact BK554.out) hb);have n4_:=Aside0.mk (blk_below (g:=gb573) (o:= .cells #[.slice Ao30 t566.length co30,.int .i64 t569,.string t570,.int .i64 t571] 36 (0,0)) (by (with_reducible repeat (first|apply bN|apply bd|apply bA));refine blk_put (cs:= #[.slice Ao30 t566.length co30,.int .i64 t569,.string t570,.int .i64 0]) ?_ 3 _ rfl;(with_reducible repeat (first|apply bN|apply bd|apply bA));refine blk_put (cs:= #[.slice Ao30 t566.length co30,.int .i64 t569,.string (⟨#[]⟩:ByteArray),.int .i64 0]) ?_ 2 _ rfl;(with_reducible repeat (first|apply bN|apply bd|apply bA));refine blk_put (cs:= #[.slice Ao30 t566.length co30,.int .i64 0,.string (⟨#[]⟩:ByteArray),.int .i64 0]) ?_ 1 _ rfl;(with_reducible repeat (first|apply bN|apply bd|apply bA));refine blk_put (cs:= #[.slice none 0 0,.int .i64 0,.string (⟨#[]⟩:ByteArray),.int .i64 0]) ?_ 0 _ rfl;(with_reducible repeat (first|apply bN|apply bd|apply bA));exact BK573.out) hb);have n5_:=Aside0.mk (below_step (by repeat (first|(with_reducible first|exact HB.out|apply below_alloc|apply pw_below_drewN|apply below_drew1|refine below_set ?_ GE554.out|refine below_set ?_ GE573.out)|exact HB.out)) hb);clear HO565;clear HO568;clear BK554;clear BK573;clear HB;have HO565:=n0_;have HO568:=n1_;have HO576:=n2_;have BK554:=n3_;have BK573:=n4_;have HB:=n5_;clear n0_ n1_ n2_ n3_ n4_ n5_;(try clear hb);(try clear hb2);(try clear hk);(try clear hi);(try clear ho0))|((with_reducible refine gate_dst (N:=8) rfl ?_);refine box_event ?hg (N:=8) ?hd (cs:= #[.slice none 0 0,.int .i64 0,.string (⟨#[]⟩:ByteArray),.int .i64 0]) (t:=36) ?hr ?_;(case hd=> rfl);(case hg=> rfl);(case hr=> first|(go_simp;done)|(go_simp;rfl));intro gb580 hg w35 hbox hb;have n0_:=Aside0.mk (Kd.R_below (by (with_reducible repeat (first|apply Kd.R_alloc|apply Kd.R_drewN|apply Kd.R_drew));exact HO565.out) hb);have n1_:=Aside0.mk (Kd.R_below (by (with_reducible repeat (first|apply Kd.R_alloc|apply Kd.R_drewN|apply Kd.R_drew));exact HO568.out) hb);have n2_:=Aside0.mk (Kd.R_below (by (with_reducible repeat (first|apply Kd.R_alloc|apply Kd.R_drewN|apply Kd.R_drew));exact HO576.out) hb);have n3_:=Aside0.mk (blk_below (g:=gb554) (o:= .cells #[.slice A0_0 l0_0.length c0_0,.int .i64 a0_1,.string a0_2,.int .i64 a0_3] 61 (0,0)) (by (with_reducible repeat (first|apply bN|apply bd|apply bA));exact BK554.out) hb);have n4_:=Aside0.mk (blk_below (g:=gb573) (o:= .cells #[.slice Ao30 t566.length co30,.int .i64 t569,.string t570,.int .i64 t571] 36 (0,0)) (by (with_reducible repeat (first|apply bN|apply bd|apply bA));exact BK573.out) hb);have n5_:=Aside0.mk (below_step (by repeat (first|(with_reducible first|exact HB.out|apply below_alloc|apply pw_below_drewN|apply below_drew1|refine below_set ?_ GE554.out|refine below_set ?_ GE573.out)|exact HB.out)) hb);have n6_:=Aside0.mk (hbox);have n7_:=Aside0.mk ((by rw [hg];exact (below_size (by repeat (first|(with_reducible first|exact HB.out|apply below_alloc|apply pw_below_drewN|apply below_drew1|refine below_set ?_ GE554.out|refine below_set ?_ GE573.out)|exact HB.out))):w.heap.size ≤ gb580));have n8_:=Aside0.mk ((by rw [hg];exact (below_size (by repeat (first|(with_reducible first|exact HB.out|apply below_alloc|apply pw_below_drewN|apply below_drew1|refine below_set ?_ GE554.out|refine below_set ?_ GE573.out)|exact HB.out))):w.heap.size ≤ gb580));have n9_:=Aside0.mk ((by rw [hg];exact Nat.ne_of_lt (blk_lt (g:=gb554) (o:= .cells #[.slice A0_0 l0_0.length c0_0,.int .i64 a0_1,.string a0_2,.int .i64 a0_3] 61 (0,0)) (by (with_reducible repeat (first|apply bN|apply bd|apply bA));exact BK554.out)):gb554 ≠ gb580));have n10_:=Aside0.mk ((by rw [hg];exact Nat.ne_of_gt (blk_lt (g:=gb554) (o:= .cells #[.slice A0_0 l0_0.length c0_0,.int .i64 a0_1,.string a0_2,.int .i64 a0_3] 61 (0,0)) (by (with_reducible repeat (first|apply bN|apply bd|apply bA));exact BK554.out)):gb580 ≠ gb554));have n11_:=Aside0.mk ((by rw [hg];exact Nat.ne_of_lt (blk_lt (g:=gb573) (o:= .cells #[.slice Ao30 t566.length co30,.int .i64 t569,.string t570,.int .i64 t571] 36 (0,0)) (by (with_reducible repeat (first|apply bN|apply bd|apply bA));exact BK573.out)):gb573 ≠ gb580));have n12_:=Aside0.mk ((by rw [hg];exact Nat.ne_of_gt (blk_lt (g:=gb573) (o:= .cells #[.slice Ao30 t566.length co30,.int .i64 t569,.string t570,.int .i64 t571] 36 (0,0)) (by (with_reducible repeat (first|apply bN|apply bd|apply bA));exact BK573.out)):gb580 ≠ gb573));clear HO565;clear HO568;clear HO576;clear BK554;clear BK573;clear HB;have HO565:=n0_;have HO568:=n1_;have HO576:=n2_;have BK554:=n3_;have BK573:=n4_;have HB:=n5_;have BK580:=n6_;have GW580:=n7_;have GE580:=n8_;have NB554_580:=n9_;have NB580_554:=n10_;have NB573_580:=n11_;have NB580_573:=n12_;clear n0_ n1_ n2_ n3_ n4_ n5_ n6_ n7_ n8_ n9_ n10_ n11_ n12_;clear hb hbox hg;obtain ⟨Ao36,co36,eo36⟩:=Kd.R_slice HO576.out;subst eo36;have hnb37:=NB580_554.out;have hnc37:=NB554_580.out;have hnb38:=NB580_573.out;have hnc38:=NB573_580.out;have hcz39_0:w35.cell? ⟨gb580,0,none⟩=some (.slice none 0 0):=(blk_cell BK580.out 0).trans rfl;have hcz39_1:w35.cell? ⟨gb580,1,none⟩=some (.int .i64 0):=(blk_cell BK580.out 1).trans rfl;have hcz39_2:w35.cell? ⟨gb580,2,none⟩=some (.string (⟨#[]⟩:ByteArray)):=(blk_cell BK580.out 2).trans rfl;have hcz39_3:w35.cell? ⟨gb580,3,none⟩=some (.int .i64 0):=(blk_cell BK580.out 3).trans rfl;have hfz39_0:=blk_frozen BK580.out 0;have hfz39_1:=blk_frozen BK580.out 1;have hfz39_2:=blk_frozen BK580.out 2;have hfz39_3:=blk_frozen BK580.out 3)|((with_reducible refine gate_callee (f:=61) rfl ?_);refine goesL_ (some 38) rfl rfl Try.func61 (by kernel_rfl) rfl #[.slice A1 l1.length c1] rfl (by (try simp only [List.map_toArray,List.map_cons,List.map_nil]);first|done|rfl|(simp only [List.length_drop,List.length_take];rfl)) ?_;(with_reducible refine (laws_toExtS.calls k _ _ l1 t581 _ ?side1 ?side2 A17.out).mono ?_);(case side1=> exact Kd.C_below HR1.out (by repeat (first|(with_reducible first|exact HB.out|apply below_alloc|apply pw_below_drewN|apply below_drew1|refine below_set ?_ GE554.out|refine below_set ?_ GE573.out|refine below_set ?_ GE580.out)|exact HB.out)));(case side2=> exact HC1.out);rintro e w40 ⟨v582,rfl,ho0,hb⟩;refine ⟨_,rfl,?_⟩;have n0_:=Aside0.mk (Kd.R_elder' (by (with_reducible repeat (first|apply Kd.R_alloc|apply Kd.R_drewN|apply Kd.R_drew));exact (Kd.R_mono (Kd.R_far (p:=⟨gb580,3,none⟩) (Kd.R_far (p:=⟨gb580,2,none⟩) (Kd.R_far (p:=⟨gb580,1,none⟩) (Kd.R_far (p:=⟨gb580,0,none⟩) (Kd.R_types HO565.out BK580.out (by decide)) (fun _ hk=> hk.2) (.slice Ao36 t574.length co36)) (fun _ hk=> hk.2) (.int .i64 t577)) (fun _ hk=> hk.2) (.string t578)) (fun _ hk=> hk.2) (.int .i64 t579)) (fun _ h_=> h_.1))) (Kd.R_base ho0) hb);have n1_:=Aside0.mk (Kd.R_elder' (by (with_reducible repeat (first|apply Kd.R_alloc|apply Kd.R_drewN|apply Kd.R_drew));exact (Kd.R_mono (Kd.R_far (p:=⟨gb580,3,none⟩) (Kd.R_far (p:=⟨gb580,2,none⟩) (Kd.R_far (p:=⟨gb580,1,none⟩) (Kd.R_far (p:=⟨gb580,0,none⟩) (Kd.R_types HO568.out BK580.out (by decide)) (fun _ hk=> hk.2) (.slice Ao36 t574.length co36)) (fun _ hk=> hk.2) (.int .i64 t577)) (fun _ hk=> hk.2) (.string t578)) (fun _ hk=> hk.2) (.int .i64 t579)) (fun _ h_=> h_.1))) (Kd.R_base ho0) hb);have n2_:=Aside0.mk (Kd.R_elder' (by (with_reducible repeat (first|apply Kd.R_alloc|apply Kd.R_drewN|apply Kd.R_drew));exact (Kd.R_mono (Kd.R_far (p:=⟨gb580,3,none⟩) (Kd.R_far (p:=⟨gb580,2,none⟩) (Kd.R_far (p:=⟨gb580,1,none⟩) (Kd.R_far (p:=⟨gb580,0,none⟩) (Kd.R_types HO576.out BK580.out (by decide)) (fun _ hk=> hk.2) (.slice Ao36 t574.length co36)) (fun _ hk=> hk.2) (.int .i64 t577)) (fun _ hk=> hk.2) (.string t578)) (fun _ hk=> hk.2) (.int .i64 t579)) (fun _ h_=> h_.1))) (Kd.R_base ho0) hb);have n3_:=Aside0.mk (Kd.R_lower (Kd.R_new' (Kd.R_new' (Kd.R_new' ho0 (Kd.R_lt (by (with_reducible repeat (first|apply Kd.R_alloc|apply Kd.R_drewN|apply Kd.R_drew));exact (Kd.R_mono (Kd.R_far (p:=⟨gb580,3,none⟩) (Kd.R_far (p:=⟨gb580,2,none⟩) (Kd.R_far (p:=⟨gb580,1,none⟩) (Kd.R_far (p:=⟨gb580,0,none⟩) (Kd.R_types HO565.out BK580.out (by decide)) (fun _ hk=> hk.2) (.slice Ao36 t574.length co36)) (fun _ hk=> hk.2) (.int .i64 t577)) (fun _ hk=> hk.2) (.string t578)) (fun _ hk=> hk.2) (.int .i64 t579)) (fun _ h_=> h_.1))))) (Kd.R_lt (by (with_reducible repeat (first|apply Kd.R_alloc|apply Kd.R_drewN|apply Kd.R_drew));exact (Kd.R_mono (Kd.R_far (p:=⟨gb580,3,none⟩) (Kd.R_far (p:=⟨gb580,2,none⟩) (Kd.R_far (p:=⟨gb580,1,none⟩) (Kd.R_far (p:=⟨gb580,0,none⟩) (Kd.R_types HO568.out BK580.out (by decide)) (fun _ hk=> hk.2) (.slice Ao36 t574.length co36)) (fun _ hk=> hk.2) (.int .i64 t577)) (fun _ hk=> hk.2) (.string t578)) (fun _ hk=> hk.2) (.int .i64 t579)) (fun _ h_=> h_.1))))) (Kd.R_lt (by (with_reducible repeat (first|apply Kd.R_alloc|apply Kd.R_drewN|apply Kd.R_drew));exact (Kd.R_mono (Kd.R_far (p:=⟨gb580,3,none⟩) (Kd.R_far (p:=⟨gb580,2,none⟩) (Kd.R_far (p:=⟨gb580,1,none⟩) (Kd.R_far (p:=⟨gb580,0,none⟩) (Kd.R_types HO576.out BK580.out (by decide)) (fun _ hk=> hk.2) (.slice Ao36 t574.length co36)) (fun _ hk=> hk.2) (.int .i64 t577)) (fun _ hk=> hk.2) (.string t578)) (fun _ hk=> hk.2) (.int .i64 t579)) (fun _ h_=> h_.1))))) (below_size (by repeat (first|(with_reducible first|exact HB.out|apply below_alloc|apply pw_below_drewN|apply below_drew1|refine below_set ?_ GE554.out|refine below_set ?_ GE573.out|refine below_set ?_ GE580.out)|exact HB.out))));have n4_:=Aside0.mk (blk_below (g:=gb554) (o:= .cells #[.slice A0_0 l0_0.length c0_0,.int .i64 a0_1,.string a0_2,.int .i64 a0_3] 61 (0,0)) (by (with_reducible repeat (first|apply bN|apply bd|apply bA));refine blk_far ?_ NB554_580.out _;(with_reducible repeat (first|apply bN|apply bd|apply bA));refine blk_far ?_ NB554_580.out _;(with_reducible repeat (first|apply bN|apply bd|apply bA));refine blk_far ?_ NB554_580.out _;(with_reducible repeat (first|apply bN|apply bd|apply bA));refine blk_far ?_ NB554_580.out _;(with_reducible repeat (first|apply bN|apply bd|apply bA));exact BK554.out) hb);have n5_:=Aside0.mk (blk_below (g:=gb573) (o:= .cells #[.slice Ao30 t566.length co30,.int .i64 t569,.string t570,.int .i64 t571] 36 (0,0)) (by (with_reducible repeat (first|apply bN|apply bd|apply bA));refine blk_far ?_ NB573_580.out _;(with_reducible repeat (first|apply bN|apply bd|apply bA));refine blk_far ?_ NB573_580.out _;(with_reducible repeat (first|apply bN|apply bd|apply bA));refine blk_far ?_ NB573_580.out _;(with_reducible repeat (first|apply bN|apply bd|apply bA));refine blk_far ?_ NB573_580.out _;(with_reducible repeat (first|apply bN|apply bd|apply bA));exact BK573.out) hb);have n6_:=Aside0.mk (blk_below (g:=gb580) (o:= .cells #[.slice Ao36 t574.length co36,.int .i64 t577,.string t578,.int .i64 t579] 36 (0,0)) (by (with_reducible repeat (first|apply bN|apply bd|apply bA));refine blk_put (cs:= #[.slice Ao36 t574.length co36,.int .i64 t577,.string t578,.int .i64 0]) ?_ 3 _ rfl;(with_reducible repeat (first|apply bN|apply bd|apply bA));refine blk_put (cs:= #[.slice Ao36 t574.length co36,.int .i64 t577,.string (⟨#[]⟩:ByteArray),.int .i64 0]) ?_ 2 _ rfl;(with_reducible repeat (first|apply bN|apply bd|apply bA));refine blk_put (cs:= #[.slice Ao36 t574.length co36,.int .i64 0,.string (⟨#[]⟩:ByteArray),.int .i64 0]) ?_ 1 _ rfl;(with_reducible repeat (first|apply bN|apply bd|apply bA));refine blk_put (cs:= #[.slice none 0 0,.int .i64 0,.string (⟨#[]⟩:ByteArray),.int .i64 0]) ?_ 0 _ rfl;(with_reducible repeat (first|apply bN|apply bd|apply bA));exact BK580.out) hb);have n7_:=Aside0.mk (below_step (by repeat (first|(with_reducible first|exact HB.out|apply below_alloc|apply pw_below_drewN|apply below_drew1|refine below_set ?_ GE554.out|refine below_set ?_ GE573.out|refine below_set ?_ GE580.out)|exact HB.out)) hb);clear HO565;clear HO568;clear HO576;clear BK554;clear BK573;clear BK580;clear HB;have HO565:=n0_;have HO568:=n1_;have HO576:=n2_;have HO583:=n3_;have BK554:=n4_;have BK573:=n5_;have BK580:=n6_;have HB:=n7_;clear n0_ n1_ n2_ n3_ n4_ n5_ n6_ n7_;(try clear hb);(try clear hb2);(try clear hk);(try clear hi);(try clear ho0);have hcz41_0:w40.cell? ⟨gb580,0,none⟩=some (.slice Ao36 t574.length co36):=(blk_cell BK580.out 0).trans rfl;have hcz41_1:w40.cell? ⟨gb580,1,none⟩=some (.int .i64 t577):=(blk_cell BK580.out 1).trans rfl;have hcz41_2:w40.cell? ⟨gb580,2,none⟩=some (.string t578):=(blk_cell BK580.out 2).trans rfl;have hcz41_3:w40.cell? ⟨gb580,3,none⟩=some (.int .i64 t579):=(blk_cell BK580.out 3).trans rfl;have hfz41_0:=blk_frozen BK580.out 0;have hfz41_1:=blk_frozen BK580.out 1;have hfz41_2:=blk_frozen BK580.out 2;have hfz41_3:=blk_frozen BK580.out 3;obtain ⟨Ao42,co42,eo42⟩:=Kd.R_slice HO583.out;subst eo42)|((with_reducible refine gate_callee (f:=68) rfl ?_);refine goesL_ (some 42) rfl rfl Try.func68 (by kernel_rfl) rfl #[.agg #[.slice Ao36 t574.length co36,.int .i64 t577,.string t578,.int .i64 t579],.slice Ao42 t581.length co42] rfl (by (try simp only [List.map_toArray,List.map_cons,List.map_nil]);first|done|rfl|(simp only [List.length_drop,List.length_take];rfl)) ?_;(with_reducible refine (impl_AbsorbExts.calls _ _ t574 t577 t578 t579 _ _ t581 t584 t587 t588 t589 t590 _ ?side1 ?side2 ?side3 ?side4 A18.out).mono ?_);(case side1=> repeat (first|exact (Kd.R_reads' HO576.out).2.2|(with_reducible refine Kd.C_alloc ?_ _)|(with_reducible refine Kd.C_drewN ?_ _)|(with_reducible refine Kd.C_drew ?_)));(case side2=> exact (Kd.R_reads' HO576.out).2.1);(case side3=> repeat (first|exact (Kd.R_reads' HO583.out).2.2|(with_reducible refine Kd.C_alloc ?_ _)|(with_reducible refine Kd.C_drewN ?_ _)|(with_reducible refine Kd.C_drew ?_)));(case side4=> exact (Kd.R_reads' HO583.out).2.1);rintro e w43 ⟨v585,rfl,ho0,hb⟩;refine ⟨_,rfl,?_⟩;have n0_:=Aside0.mk (Kd.R_elder' (by (with_reducible repeat (first|apply Kd.R_alloc|apply Kd.R_drewN|apply Kd.R_drew));exact HO565.out) (Kd.R_base ho0) hb);have n1_:=Aside0.mk (Kd.R_elder' (by (with_reducible repeat (first|apply Kd.R_alloc|apply Kd.R_drewN|apply Kd.R_drew));exact HO568.out) (Kd.R_base ho0) hb);have n2_:=Aside0.mk (Kd.R_elder' (by (with_reducible repeat (first|apply Kd.R_alloc|apply Kd.R_drewN|apply Kd.R_drew));exact HO576.out) (Kd.R_base ho0) hb);have n3_:=Aside0.mk (Kd.R_elder' (by (with_reducible repeat (first|apply Kd.R_alloc|apply Kd.R_drewN|apply Kd.R_drew));exact HO583.out) (Kd.R_base ho0) hb);have n4_:=Aside0.mk (Kd.R_lower (Kd.R_new' (Kd.R_new' (Kd.R_new' (Kd.R_new' ho0 (Kd.R_lt (by (with_reducible repeat (first|apply Kd.R_alloc|apply Kd.R_drewN|apply Kd.R_drew));exact HO565.out))) (Kd.R_lt (by (with_reducible repeat (first|apply Kd.R_alloc|apply Kd.R_drewN|apply Kd.R_drew));exact HO568.out))) (Kd.R_lt (by (with_reducible repeat (first|apply Kd.R_alloc|apply Kd.R_drewN|apply Kd.R_drew));exact HO576.out))) (Kd.R_lt (by (with_reducible repeat (first|apply Kd.R_alloc|apply Kd.R_drewN|apply Kd.R_drew));exact HO583.out))) (below_size (by repeat (first|(with_reducible first|exact HB.out|apply below_alloc|apply pw_below_drewN|apply below_drew1|refine below_set ?_ GE554.out|refine below_set ?_ GE573.out|refine below_set ?_ GE580.out)|exact HB.out))));have n5_:=Aside0.mk (blk_below (g:=gb554) (o:= .cells #[.slice A0_0 l0_0.length c0_0,.int .i64 a0_1,.string a0_2,.int .i64 a0_3] 61 (0,0)) (by (with_reducible repeat (first|apply bN|apply bd|apply bA));exact BK554.out) hb);have n6_:=Aside0.mk (blk_below (g:=gb573) (o:= .cells #[.slice Ao30 t566.length co30,.int .i64 t569,.string t570,.int .i64 t571] 36 (0,0)) (by (with_reducible repeat (first|apply bN|apply bd|apply bA));exact BK573.out) hb);have n7_:=Aside0.mk (blk_below (g:=gb580) (o:= .cells #[.slice Ao36 t574.length co36,.int .i64 t577,.string t578,.int .i64 t579] 36 (0,0)) (by (with_reducible repeat (first|apply bN|apply bd|apply bA));exact BK580.out) hb);have n8_:=Aside0.mk (below_step (by repeat (first|(with_reducible first|exact HB.out|apply below_alloc|apply pw_below_drewN|apply below_drew1|refine below_set ?_ GE554.out|refine below_set ?_ GE573.out|refine below_set ?_ GE580.out)|exact HB.out)) hb);clear HO565;clear HO568;clear HO576;clear HO583;clear BK554;clear BK573;clear BK580;clear HB;have HO565:=n0_;have HO568:=n1_;have HO576:=n2_;have HO583:=n3_;have HO586:=n4_;have BK554:=n5_;have BK573:=n6_;have BK580:=n7_;have HB:=n8_;clear n0_ n1_ n2_ n3_ n4_ n5_ n6_ n7_ n8_;(try clear hb);(try clear hb2);(try clear hk);(try clear hi);(try clear ho0))|((with_reducible refine gate_dst (N:=10) rfl ?_);refine box_event ?hg (N:=10) ?hd (cs:= #[.slice none 0 0,.int .i64 0,.string (⟨#[]⟩:ByteArray),.int .i64 0]) (t:=36) ?hr ?_;(case hd=> rfl);(case hg=> rfl);(case hr=> first|(go_simp;done)|(go_simp;rfl));intro gb591 hg w44 hbox hb;have n0_:=Aside0.mk (Kd.R_below (by (with_reducible repeat (first|apply Kd.R_alloc|apply Kd.R_drewN|apply Kd.R_drew));exact HO565.out) hb);have n1_:=Aside0.mk (Kd.R_below (by (with_reducible repeat (first|apply Kd.R_alloc|apply Kd.R_drewN|apply Kd.R_drew));exact HO568.out) hb);have n2_:=Aside0.mk (Kd.R_below (by (with_reducible repeat (first|apply Kd.R_alloc|apply Kd.R_drewN|apply Kd.R_drew));exact HO576.out) hb);have n3_:=Aside0.mk (Kd.R_below (by (with_reducible repeat (first|apply Kd.R_alloc|apply Kd.R_drewN|apply Kd.R_drew));exact HO583.out) hb);have n4_:=Aside0.mk (Kd.R_below (by (with_reducible repeat (first|apply Kd.R_alloc|apply Kd.R_drewN|apply Kd.R_drew));exact HO586.out) hb);have n5_:=Aside0.mk (blk_below (g:=gb554) (o:= .cells #[.slice A0_0 l0_0.length c0_0,.int .i64 a0_1,.string a0_2,.int .i64 a0_3] 61 (0,0)) (by (with_reducible repeat (first|apply bN|apply bd|apply bA));exact BK554.out) hb);have n6_:=Aside0.mk (blk_below (g:=gb573) (o:= .cells #[.slice Ao30 t566.length co30,.int .i64 t569,.string t570,.int .i64 t571] 36 (0,0)) (by (with_reducible repeat (first|apply bN|apply bd|apply bA));exact BK573.out) hb);have n7_:=Aside0.mk (blk_below (g:=gb580) (o:= .cells #[.slice Ao36 t574.length co36,.int .i64 t577,.string t578,.int .i64 t579] 36 (0,0)) (by (with_reducible repeat (first|apply bN|apply bd|apply bA));exact BK580.out) hb);have n8_:=Aside0.mk (below_step (by repeat (first|(with_reducible first|exact HB.out|apply below_alloc|apply pw_below_drewN|apply below_drew1|refine below_set ?_ GE554.out|refine below_set ?_ GE573.out|refine below_set ?_ GE580.out)|exact HB.out)) hb);have n9_:=Aside0.mk (hbox);have n10_:=Aside0.mk ((by rw [hg];exact (below_size (by repeat (first|(with_reducible first|exact HB.out|apply below_alloc|apply pw_below_drewN|apply below_drew1|refine below_set ?_ GE554.out|refine below_set ?_ GE573.out|refine below_set ?_ GE580.out)|exact HB.out))):w.heap.size ≤ gb591));have n11_:=Aside0.mk ((by rw [hg];exact (below_size (by repeat (first|(with_reducible first|exact HB.out|apply below_alloc|apply pw_below_drewN|apply below_drew1|refine below_set ?_ GE554.out|refine below_set ?_ GE573.out|refine below_set ?_ GE580.out)|exact HB.out))):w.heap.size ≤ gb591));have n12_:=Aside0.mk ((by rw [hg];exact Nat.ne_of_lt (blk_lt (g:=gb554) (o:= .cells #[.slice A0_0 l0_0.length c0_0,.int .i64 a0_1,.string a0_2,.int .i64 a0_3] 61 (0,0)) (by (with_reducible repeat (first|apply bN|apply bd|apply bA));exact BK554.out)):gb554 ≠ gb591));have n13_:=Aside0.mk ((by rw [hg];exact Nat.ne_of_gt (blk_lt (g:=gb554) (o:= .cells #[.slice A0_0 l0_0.length c0_0,.int .i64 a0_1,.string a0_2,.int .i64 a0_3] 61 (0,0)) (by (with_reducible repeat (first|apply bN|apply bd|apply bA));exact BK554.out)):gb591 ≠ gb554));have n14_:=Aside0.mk ((by rw [hg];exact Nat.ne_of_lt (blk_lt (g:=gb573) (o:= .cells #[.slice Ao30 t566.length co30,.int .i64 t569,.string t570,.int .i64 t571] 36 (0,0)) (by (with_reducible repeat (first|apply bN|apply bd|apply bA));exact BK573.out)):gb573 ≠ gb591));have n15_:=Aside0.mk ((by rw [hg];exact Nat.ne_of_gt (blk_lt (g:=gb573) (o:= .cells #[.slice Ao30 t566.length co30,.int .i64 t569,.string t570,.int .i64 t571] 36 (0,0)) (by (with_reducible repeat (first|apply bN|apply bd|apply bA));exact BK573.out)):gb591 ≠ gb573));have n16_:=Aside0.mk ((by rw [hg];exact Nat.ne_of_lt (blk_lt (g:=gb580) (o:= .cells #[.slice Ao36 t574.length co36,.int .i64 t577,.string t578,.int .i64 t579] 36 (0,0)) (by (with_reducible repeat (first|apply bN|apply bd|apply bA));exact BK580.out)):gb580 ≠ gb591));have n17_:=Aside0.mk ((by rw [hg];exact Nat.ne_of_gt (blk_lt (g:=gb580) (o:= .cells #[.slice Ao36 t574.length co36,.int .i64 t577,.string t578,.int .i64 t579] 36 (0,0)) (by (with_reducible repeat (first|apply bN|apply bd|apply bA));exact BK580.out)):gb591 ≠ gb580));clear HO565;clear HO568;clear HO576;clear HO583;clear HO586;clear BK554;clear BK573;clear BK580;clear HB;have HO565:=n0_;have HO568:=n1_;have HO576:=n2_;have HO583:=n3_;have HO586:=n4_;have BK554:=n5_;have BK573:=n6_;have BK580:=n7_;have HB:=n8_;have BK591:=n9_;have GW591:=n10_;have GE591:=n11_;have NB554_591:=n12_;have NB591_554:=n13_;have NB573_591:=n14_;have NB591_573:=n15_;have NB580_591:=n16_;have NB591_580:=n17_;clear n0_ n1_ n2_ n3_ n4_ n5_ n6_ n7_ n8_ n9_ n10_ n11_ n12_ n13_ n14_ n15_ n16_ n17_;clear hb hbox hg;obtain ⟨Ao45,co45,eo45⟩:=Kd.R_slice HO586.out;subst eo45;have hnb46:=NB591_554.out;have hnc46:=NB554_591.out;have hnb47:=NB591_573.out;have hnc47:=NB573_591.out;have hnb48:=NB591_580.out;have hnc48:=NB580_591.out;have hcz49_0:w44.cell? ⟨gb591,0,none⟩=some (.slice none 0 0):=(blk_cell BK591.out 0).trans rfl;have hcz49_1:w44.cell? ⟨gb591,1,none⟩=some (.int .i64 0):=(blk_cell BK591.out 1).trans rfl;have hcz49_2:w44.cell? ⟨gb591,2,none⟩=some (.string (⟨#[]⟩:ByteArray)):=(blk_cell BK591.out 2).trans rfl;have hcz49_3:w44.cell? ⟨gb591,3,none⟩=some (.int .i64 0):=(blk_cell BK591.out 3).trans rfl;have hfz49_0:=blk_frozen BK591.out 0;have hfz49_1:=blk_frozen BK591.out 1;have hfz49_2:=blk_frozen BK591.out 2;have hfz49_3:=blk_frozen BK591.out 3))
      (try simp only [Act.put,List.setIfInBounds_toArray,List.set_cons_zero,List.set_cons_succ])
      go_cut [53] (fun v53 wc=> ∃ (kq:Nat) (x53_18:Bool),v53= .bool x53_18 ∧ Aside0 (laws_FnExactAbsorbExts.j0 kq l1 t572 t581 t590 x53_18 l0_0 a0_1 a0_2 a0_3 t566 t569 t570 t571 t574 t577 t578 t579 t584 t587 t588 t589=some r) ∧ Aside0 (kq ≤ k) ∧ Aside0 (Kd.R k79 79 wc w.heap.size (fun k_=> some k_ ≠ ((.slice Ao30 t566.length co30):Value).ownBlock ∧ some k_ ≠ ((.slice Ao36 t574.length co36):Value).ownBlock ∧ some k_ ≠ ((.slice Ao45 t584.length co45):Value).ownBlock) (.slice Ao42 t581.length co42) t581) ∧ Aside0 (Kd.R k79 79 wc w.heap.size (fun k_=> some k_ ≠ ((.slice Ao42 t581.length co42):Value).ownBlock ∧ some k_ ≠ ((.slice Ao36 t574.length co36):Value).ownBlock ∧ some k_ ≠ ((.slice Ao45 t584.length co45):Value).ownBlock) (.slice Ao30 t566.length co30) t566) ∧ Aside0 (Kd.R k79 79 wc w.heap.size (fun k_=> some k_ ≠ ((.slice Ao42 t581.length co42):Value).ownBlock ∧ some k_ ≠ ((.slice Ao30 t566.length co30):Value).ownBlock ∧ some k_ ≠ ((.slice Ao45 t584.length co45):Value).ownBlock) (.slice Ao36 t574.length co36) t574) ∧ Aside0 (Kd.R k79 79 wc w.heap.size (fun k_=> some k_ ≠ ((.slice Ao42 t581.length co42):Value).ownBlock ∧ some k_ ≠ ((.slice Ao30 t566.length co30):Value).ownBlock ∧ some k_ ≠ ((.slice Ao36 t574.length co36):Value).ownBlock) (.slice Ao45 t584.length co45) t584) ∧ Aside0 (wc.heap[gb554]?=some (.cells #[(.slice A0_0 l0_0.length c0_0),.int .i64 a0_1,.string a0_2,.int .i64 a0_3] 61 (0,0))) ∧ Aside0 (wc.heap[gb573]?=some (.cells #[(.slice Ao30 t566.length co30),.int .i64 t569,.string t570,.int .i64 t571] 36 (0,0))) ∧ Aside0 (wc.heap[gb580]?=some (.cells #[(.slice Ao36 t574.length co36),.int .i64 t577,.string t578,.int .i64 t579] 36 (0,0))) ∧ Aside0 (wc.heap[gb591]?=some (.cells #[(.slice Ao45 t584.length co45),.int .i64 t587,.string t588,.int .i64 t589] 36 (0,0))) ∧ Aside0 (Below w.heap.size w wc))
      case first=>
        have H:=HC19.out
        clear HC19
        replace H:=Option.bind_eq_some_iff.mp H
        obtain ⟨t592,A500,H⟩:=H
        replace H:(if t592=true then (laws_FnExactAbsorbExts.j0 k l1 t572 t581 t590 (t590 !=t572) l0_0 a0_1 a0_2 a0_3 t566 t569 t570 t571 t574 t577 t578 t579 t584 t587 t588 t589) else (none))=some r:=H
        have A50:=Aside0.mk A500
        clear A500
        by_cases c51:t592=true
        · subst c51
          have H1:(laws_FnExactAbsorbExts.j0 k l1 t572 t581 t590 (t590 !=t572) l0_0 a0_1 a0_2 a0_3 t566 t569 t570 t571 t574 t577 t578 t579 t584 t587 t588 t589)=some r:=by rw [if_pos rfl] at H;exact H
          clear H
          have H:=H1
          clear H1
          have H':=Aside0.mk H
          clear H
          have hnb52:=NB591_554.out
          have hnc52:=NB554_591.out
          have hnb53:=NB591_573.out
          have hnc53:=NB573_591.out
          have hnb54:=NB591_580.out
          have hnc54:=NB580_591.out
          have hcz55_0:w44.cell? ⟨gb591,0,none⟩=some (.slice none 0 0):=(blk_cell BK591.out 0).trans rfl
          have hcz55_1:w44.cell? ⟨gb591,1,none⟩=some (.int .i64 0):=(blk_cell BK591.out 1).trans rfl
          have hcz55_2:w44.cell? ⟨gb591,2,none⟩=some (.string (⟨#[]⟩:ByteArray)):=(blk_cell BK591.out 2).trans rfl
          have hcz55_3:w44.cell? ⟨gb591,3,none⟩=some (.int .i64 0):=(blk_cell BK591.out 3).trans rfl
          have hfz55_0:=blk_frozen BK591.out 0
          have hfz55_1:=blk_frozen BK591.out 1
          have hfz55_2:=blk_frozen BK591.out 2
          have hfz55_3:=blk_frozen BK591.out 3
          have hnb56:=NB573_554.out
          have hnc56:=NB554_573.out
          have hnb57:=NB573_580.out
          have hnc57:=NB580_573.out
          have hcz58_0:w44.cell? ⟨gb573,0,none⟩=some (.slice Ao30 t566.length co30):=(blk_cell BK573.out 0).trans rfl
          have hcz58_1:w44.cell? ⟨gb573,1,none⟩=some (.int .i64 t569):=(blk_cell BK573.out 1).trans rfl
          have hcz58_2:w44.cell? ⟨gb573,2,none⟩=some (.string t570):=(blk_cell BK573.out 2).trans rfl
          have hcz58_3:w44.cell? ⟨gb573,3,none⟩=some (.int .i64 t571):=(blk_cell BK573.out 3).trans rfl
          have hfz58_0:=blk_frozen BK573.out 0
          have hfz58_1:=blk_frozen BK573.out 1
          have hfz58_2:=blk_frozen BK573.out 2
          have hfz58_3:=blk_frozen BK573.out 3
          go_wp2_with (first|((with_reducible refine gate_callee (f:=36) rfl ?_);refine goesL_ (some 47) rfl rfl Try.func36 (by kernel_rfl) rfl #[.agg #[.slice Ao45 t584.length co45,.int .i64 t587,.string t588,.int .i64 t589],.agg #[.slice Ao30 t566.length co30,.int .i64 t569,.string t570,.int .i64 t571]] rfl (by (try simp only [List.map_toArray,List.map_cons,List.map_nil]);first|done|rfl|(simp only [List.length_drop,List.length_take];rfl)) ?_;(with_reducible refine (laws_eqSource.calls k _ _ t584 t587 t588 t589 _ _ t566 t569 t570 t571 true _ ?side1 ?side2 ?side3 ?side4 A50.out).mono ?_);(case side1=> refine (Kd.R_reads' (e:=79) (base:=w.heap.size) (ok:=fun k_=> ((((True ∧ some k_ ≠ (.slice Ao27 t563.length co27:Value).ownBlock) ∧ some k_ ≠ (.slice Ao30 t566.length co30:Value).ownBlock) ∧ some k_ ≠ (.slice Ao36 t574.length co36:Value).ownBlock) ∧ some k_ ≠ (.slice Ao42 t581.length co42:Value).ownBlock)) (n:=t584.length) (c:=co45) ?_).2.2;exact (by (with_reducible repeat (first|apply Kd.R_alloc|apply Kd.R_drewN|apply Kd.R_drew));exact (Kd.R_mono (Kd.R_far (p:=⟨gb591,3,none⟩) (Kd.R_far (p:=⟨gb591,2,none⟩) (Kd.R_far (p:=⟨gb591,1,none⟩) (Kd.R_far (p:=⟨gb591,0,none⟩) (Kd.R_types HO586.out BK591.out (by decide)) (fun _ hk=> hk.2) (.slice Ao45 t584.length co45)) (fun _ hk=> hk.2) (.int .i64 t587)) (fun _ hk=> hk.2) (.string t588)) (fun _ hk=> hk.2) (.int .i64 t589)) (fun _ h_=> h_.1))));(case side2=> exact (Kd.R_reads' HO586.out).2.1);(case side3=> refine (Kd.R_reads' (e:=79) (base:=w.heap.size) (ok:=fun k_=> (((some k_ ≠ (.slice Ao27 t563.length co27:Value).ownBlock ∧ some k_ ≠ (.slice Ao36 t574.length co36:Value).ownBlock) ∧ some k_ ≠ (.slice Ao42 t581.length co42:Value).ownBlock) ∧ some k_ ≠ (.slice Ao45 t584.length co45:Value).ownBlock)) (n:=t566.length) (c:=co30) ?_).2.2;exact (by (with_reducible repeat (first|apply Kd.R_alloc|apply Kd.R_drewN|apply Kd.R_drew));exact (Kd.R_mono (Kd.R_far (p:=⟨gb591,3,none⟩) (Kd.R_far (p:=⟨gb591,2,none⟩) (Kd.R_far (p:=⟨gb591,1,none⟩) (Kd.R_far (p:=⟨gb591,0,none⟩) (Kd.R_types HO568.out BK591.out (by decide)) (fun _ hk=> hk.2) (.slice Ao45 t584.length co45)) (fun _ hk=> hk.2) (.int .i64 t587)) (fun _ hk=> hk.2) (.string t588)) (fun _ hk=> hk.2) (.int .i64 t589)) (fun _ h_=> h_.1))));(case side4=> exact (Kd.R_reads' HO568.out).2.1);rintro e w59 ⟨rfl,hb⟩;refine ⟨_,rfl,?_⟩;have n0_:=Aside0.mk (Kd.R_below (by (with_reducible repeat (first|apply Kd.R_alloc|apply Kd.R_drewN|apply Kd.R_drew));exact (Kd.R_mono (Kd.R_far (p:=⟨gb591,3,none⟩) (Kd.R_far (p:=⟨gb591,2,none⟩) (Kd.R_far (p:=⟨gb591,1,none⟩) (Kd.R_far (p:=⟨gb591,0,none⟩) (Kd.R_types HO565.out BK591.out (by decide)) (fun _ hk=> hk.2) (.slice Ao45 t584.length co45)) (fun _ hk=> hk.2) (.int .i64 t587)) (fun _ hk=> hk.2) (.string t588)) (fun _ hk=> hk.2) (.int .i64 t589)) (fun _ h_=> h_.1))) hb);have n1_:=Aside0.mk (Kd.R_below (by (with_reducible repeat (first|apply Kd.R_alloc|apply Kd.R_drewN|apply Kd.R_drew));exact (Kd.R_mono (Kd.R_far (p:=⟨gb591,3,none⟩) (Kd.R_far (p:=⟨gb591,2,none⟩) (Kd.R_far (p:=⟨gb591,1,none⟩) (Kd.R_far (p:=⟨gb591,0,none⟩) (Kd.R_types HO568.out BK591.out (by decide)) (fun _ hk=> hk.2) (.slice Ao45 t584.length co45)) (fun _ hk=> hk.2) (.int .i64 t587)) (fun _ hk=> hk.2) (.string t588)) (fun _ hk=> hk.2) (.int .i64 t589)) (fun _ h_=> h_.1))) hb);have n2_:=Aside0.mk (Kd.R_below (by (with_reducible repeat (first|apply Kd.R_alloc|apply Kd.R_drewN|apply Kd.R_drew));exact (Kd.R_mono (Kd.R_far (p:=⟨gb591,3,none⟩) (Kd.R_far (p:=⟨gb591,2,none⟩) (Kd.R_far (p:=⟨gb591,1,none⟩) (Kd.R_far (p:=⟨gb591,0,none⟩) (Kd.R_types HO576.out BK591.out (by decide)) (fun _ hk=> hk.2) (.slice Ao45 t584.length co45)) (fun _ hk=> hk.2) (.int .i64 t587)) (fun _ hk=> hk.2) (.string t588)) (fun _ hk=> hk.2) (.int .i64 t589)) (fun _ h_=> h_.1))) hb);have n3_:=Aside0.mk (Kd.R_below (by (with_reducible repeat (first|apply Kd.R_alloc|apply Kd.R_drewN|apply Kd.R_drew));exact (Kd.R_mono (Kd.R_far (p:=⟨gb591,3,none⟩) (Kd.R_far (p:=⟨gb591,2,none⟩) (Kd.R_far (p:=⟨gb591,1,none⟩) (Kd.R_far (p:=⟨gb591,0,none⟩) (Kd.R_types HO583.out BK591.out (by decide)) (fun _ hk=> hk.2) (.slice Ao45 t584.length co45)) (fun _ hk=> hk.2) (.int .i64 t587)) (fun _ hk=> hk.2) (.string t588)) (fun _ hk=> hk.2) (.int .i64 t589)) (fun _ h_=> h_.1))) hb);have n4_:=Aside0.mk (Kd.R_below (by (with_reducible repeat (first|apply Kd.R_alloc|apply Kd.R_drewN|apply Kd.R_drew));exact (Kd.R_mono (Kd.R_far (p:=⟨gb591,3,none⟩) (Kd.R_far (p:=⟨gb591,2,none⟩) (Kd.R_far (p:=⟨gb591,1,none⟩) (Kd.R_far (p:=⟨gb591,0,none⟩) (Kd.R_types HO586.out BK591.out (by decide)) (fun _ hk=> hk.2) (.slice Ao45 t584.length co45)) (fun _ hk=> hk.2) (.int .i64 t587)) (fun _ hk=> hk.2) (.string t588)) (fun _ hk=> hk.2) (.int .i64 t589)) (fun _ h_=> h_.1))) hb);have n5_:=Aside0.mk (blk_below (g:=gb554) (o:= .cells #[.slice A0_0 l0_0.length c0_0,.int .i64 a0_1,.string a0_2,.int .i64 a0_3] 61 (0,0)) (by (with_reducible repeat (first|apply bN|apply bd|apply bA));refine blk_far ?_ NB554_591.out _;(with_reducible repeat (first|apply bN|apply bd|apply bA));refine blk_far ?_ NB554_591.out _;(with_reducible repeat (first|apply bN|apply bd|apply bA));refine blk_far ?_ NB554_591.out _;(with_reducible repeat (first|apply bN|apply bd|apply bA));refine blk_far ?_ NB554_591.out _;(with_reducible repeat (first|apply bN|apply bd|apply bA));exact BK554.out) hb);have n6_:=Aside0.mk (blk_below (g:=gb573) (o:= .cells #[.slice Ao30 t566.length co30,.int .i64 t569,.string t570,.int .i64 t571] 36 (0,0)) (by (with_reducible repeat (first|apply bN|apply bd|apply bA));refine blk_far ?_ NB573_591.out _;(with_reducible repeat (first|apply bN|apply bd|apply bA));refine blk_far ?_ NB573_591.out _;(with_reducible repeat (first|apply bN|apply bd|apply bA));refine blk_far ?_ NB573_591.out _;(with_reducible repeat (first|apply bN|apply bd|apply bA));refine blk_far ?_ NB573_591.out _;(with_reducible repeat (first|apply bN|apply bd|apply bA));exact BK573.out) hb);have n7_:=Aside0.mk (blk_below (g:=gb580) (o:= .cells #[.slice Ao36 t574.length co36,.int .i64 t577,.string t578,.int .i64 t579] 36 (0,0)) (by (with_reducible repeat (first|apply bN|apply bd|apply bA));refine blk_far ?_ NB580_591.out _;(with_reducible repeat (first|apply bN|apply bd|apply bA));refine blk_far ?_ NB580_591.out _;(with_reducible repeat (first|apply bN|apply bd|apply bA));refine blk_far ?_ NB580_591.out _;(with_reducible repeat (first|apply bN|apply bd|apply bA));refine blk_far ?_ NB580_591.out _;(with_reducible repeat (first|apply bN|apply bd|apply bA));exact BK580.out) hb);have n8_:=Aside0.mk (blk_below (g:=gb591) (o:= .cells #[.slice Ao45 t584.length co45,.int .i64 t587,.string t588,.int .i64 t589] 36 (0,0)) (by (with_reducible repeat (first|apply bN|apply bd|apply bA));refine blk_put (cs:= #[.slice Ao45 t584.length co45,.int .i64 t587,.string t588,.int .i64 0]) ?_ 3 _ rfl;(with_reducible repeat (first|apply bN|apply bd|apply bA));refine blk_put (cs:= #[.slice Ao45 t584.length co45,.int .i64 t587,.string (⟨#[]⟩:ByteArray),.int .i64 0]) ?_ 2 _ rfl;(with_reducible repeat (first|apply bN|apply bd|apply bA));refine blk_put (cs:= #[.slice Ao45 t584.length co45,.int .i64 0,.string (⟨#[]⟩:ByteArray),.int .i64 0]) ?_ 1 _ rfl;(with_reducible repeat (first|apply bN|apply bd|apply bA));refine blk_put (cs:= #[.slice none 0 0,.int .i64 0,.string (⟨#[]⟩:ByteArray),.int .i64 0]) ?_ 0 _ rfl;(with_reducible repeat (first|apply bN|apply bd|apply bA));exact BK591.out) hb);have n9_:=Aside0.mk (below_step (by repeat (first|(with_reducible first|exact HB.out|apply below_alloc|apply pw_below_drewN|apply below_drew1|refine below_set ?_ GE554.out|refine below_set ?_ GE573.out|refine below_set ?_ GE580.out|refine below_set ?_ GE591.out)|exact HB.out)) hb);clear HO565;clear HO568;clear HO576;clear HO583;clear HO586;clear BK554;clear BK573;clear BK580;clear BK591;clear HB;have HO565:=n0_;have HO568:=n1_;have HO576:=n2_;have HO583:=n3_;have HO586:=n4_;have BK554:=n5_;have BK573:=n6_;have BK580:=n7_;have BK591:=n8_;have HB:=n9_;clear n0_ n1_ n2_ n3_ n4_ n5_ n6_ n7_ n8_ n9_;(try clear hb);(try clear hb2);(try clear hk);(try clear hi)))
          go_meet
          case rel=> exact ⟨_,((t590 !=t572)),(by first|rfl|(simp;done)|(simp [*];done)),H',⟨by first|omega|exact Nat.le_refl _⟩,⟨by (with_reducible repeat (first|apply Kd.R_alloc|apply Kd.R_drewN|apply Kd.R_drew));exact Kd.R_mono HO583.out (fun _ hk=> ⟨hk.1.1.2,⟨hk.1.2,hk.2⟩⟩)⟩,⟨by (with_reducible repeat (first|apply Kd.R_alloc|apply Kd.R_drewN|apply Kd.R_drew));exact Kd.R_mono HO568.out (fun _ hk=> ⟨hk.1.2,⟨hk.1.1.2,hk.2⟩⟩)⟩,⟨by (with_reducible repeat (first|apply Kd.R_alloc|apply Kd.R_drewN|apply Kd.R_drew));exact Kd.R_mono HO576.out (fun _ hk=> ⟨hk.1.2,⟨hk.1.1.2,hk.2⟩⟩)⟩,⟨by (with_reducible repeat (first|apply Kd.R_alloc|apply Kd.R_drewN|apply Kd.R_drew));exact Kd.R_mono HO586.out (fun _ hk=> ⟨hk.2,⟨hk.1.1.2,hk.1.2⟩⟩)⟩,⟨by (with_reducible repeat (first|apply bN|apply bd|apply bA));exact BK554.out⟩,⟨by (with_reducible repeat (first|apply bN|apply bd|apply bA));exact BK573.out⟩,⟨by (with_reducible repeat (first|apply bN|apply bd|apply bA));exact BK580.out⟩,⟨by (with_reducible repeat (first|apply bN|apply bd|apply bA));exact BK591.out⟩,⟨by repeat (first|(with_reducible first|exact HB.out|apply below_alloc|apply pw_below_drewN|apply below_drew1|refine below_set ?_ GE554.out|refine below_set ?_ GE573.out|refine below_set ?_ GE580.out|refine below_set ?_ GE591.out)|exact HB.out)⟩⟩
        · replace c51:=Bool.eq_false_iff.mpr c51
          subst c51
          have H1:(none)=some r:=by rw [if_neg (show ¬ (false=true) by decide)] at H;exact H
          clear H
          have H:=H1
          clear H1
          exact absurd H (by simp)
      case rest=>
        clear HC19
        try clear c1
        try clear p2
        try clear c3
        try clear c4
        try clear c4b0
        try clear c5
        try clear c6
        try clear c9
        try clear c9b0
        try clear c17
        try clear c31
        try clear c36
        try clear c37
        try clear c38
        try clear c46
        try clear c47
        try clear c48
        try clear c51
        try clear c52
        try clear c53
        try clear c54
        try clear c55
        try clear c56
        try clear c57
        try clear c59
        try clear hcz11_0
        try clear hcz11_1
        try clear hcz11_2
        try clear hcz11_3
        try clear hcz21_0
        try clear hcz21_1
        try clear hcz21_2
        try clear hcz21_3
        try clear hcz23_0
        try clear hcz23_1
        try clear hcz23_2
        try clear hcz23_3
        try clear hcz32_0
        try clear hcz32_1
        try clear hcz32_2
        try clear hcz32_3
        try clear hcz33_0
        try clear hcz33_1
        try clear hcz33_2
        try clear hcz33_3
        try clear hcz39_0
        try clear hcz39_1
        try clear hcz39_2
        try clear hcz39_3
        try clear hcz41_0
        try clear hcz41_1
        try clear hcz41_2
        try clear hcz41_3
        try clear hcz49_0
        try clear hcz49_1
        try clear hcz49_2
        try clear hcz49_3
        try clear hcz55_0
        try clear hcz55_1
        try clear hcz55_2
        try clear hcz55_3
        try clear hcz58_0
        try clear hcz58_1
        try clear hcz58_2
        try clear hcz58_3
        try clear hcz6_0
        try clear hcz6_1
        try clear hcz6_2
        try clear hcz6_3
        try clear hfz11_0
        try clear hfz11_1
        try clear hfz11_2
        try clear hfz11_3
        try clear hfz21_0
        try clear hfz21_1
        try clear hfz21_2
        try clear hfz21_3
        try clear hfz23_0
        try clear hfz23_1
        try clear hfz23_2
        try clear hfz23_3
        try clear hfz32_0
        try clear hfz32_1
        try clear hfz32_2
        try clear hfz32_3
        try clear hfz33_0
        try clear hfz33_1
        try clear hfz33_2
        try clear hfz33_3
        try clear hfz39_0
        try clear hfz39_1
        try clear hfz39_2
        try clear hfz39_3
        try clear hfz41_0
        try clear hfz41_1
        try clear hfz41_2
        try clear hfz41_3
        try clear hfz49_0
        try clear hfz49_1
        try clear hfz49_2
        try clear hfz49_3
        try clear hfz55_0
        try clear hfz55_1
        try clear hfz55_2
        try clear hfz55_3
        try clear hfz58_0
        try clear hfz58_1
        try clear hfz58_2
        try clear hfz58_3
        try clear hfz6_0
        try clear hfz6_1
        try clear hfz6_2
        try clear hfz6_3
        obtain ⟨kq,x53_18,rfl,HA,HJ18,HO_9,HO_574000,HO_581000,HO_592000,BK554,BK573,BK580,BK591,HB⟩:=hcut
        cases kq with
        |zero=> exact absurd HA.out (by simp [laws_FnExactAbsorbExts.j0])
        |succ kj18=>
          have H:=HA.out
          clear HA
          simp only [laws_FnExactAbsorbExts.j0] at H
          by_cases c60:x53_18=true
          · subst c60
            have H1:(none)=some r:=by rw [if_pos rfl] at H;exact H
            clear H
            have H:=H1
            clear H1
            exact absurd H (by simp)
          · replace c60:=Bool.eq_false_iff.mpr c60
            subst c60
            have H1:((laws_toSource.f kj18 l0_0 a0_1 a0_2 a0_3).bind fun bt593=> ((laws_eqSource.f kj18 t574 t577 t578 t579 bt593.1 bt593.2.1 bt593.2.2.1 bt593.2.2.2).bind fun t599=> (if t599=true then ((laws_toExtS.f kj18 l1).bind fun t600=> ((laws_eqExtS.f kj18 t581 t600).bind fun t603=> (if t603=true then ((laws_markSource.f kj18 t574 t577 t578 t579 1).bind fun bt604=> ((laws_markExtS.f kj18 t581 bt604.1).bind fun bt606=> (if bt606.1 < 0 then (none) else ((laws_eqSource.f kj18 t584 t587 t588 t589 t566 t569 t570 t571).bind fun t608=> (if t608=true then (laws_FnExactAbsorbExts.j1 kj18 l1 t572 (t590 !=t572) l0_0 a0_1 a0_2 a0_3 t566 t569 t570 t571 t584 t587 t588 t589) else (none)))))) else (none)))) else (none))))=some r:=by rw [if_neg (show ¬ (false=true) by decide)] at H;exact H
            clear H
            have H:=H1
            clear H1
            replace H:=Option.bind_eq_some_iff.mp H
            obtain ⟨⟨t593,t596,t597,t598⟩,A610,H⟩:=H
            replace H:((laws_eqSource.f kj18 t574 t577 t578 t579 t593 t596 t597 t598).bind fun t599=> (if t599=true then ((laws_toExtS.f kj18 l1).bind fun t600=> ((laws_eqExtS.f kj18 t581 t600).bind fun t603=> (if t603=true then ((laws_markSource.f kj18 t574 t577 t578 t579 1).bind fun bt604=> ((laws_markExtS.f kj18 t581 bt604.1).bind fun bt606=> (if bt606.1 < 0 then (none) else ((laws_eqSource.f kj18 t584 t587 t588 t589 t566 t569 t570 t571).bind fun t608=> (if t608=true then (laws_FnExactAbsorbExts.j1 kj18 l1 t572 (t590 !=t572) l0_0 a0_1 a0_2 a0_3 t566 t569 t570 t571 t584 t587 t588 t589) else (none)))))) else (none)))) else (none)))=some r:=H
            have A61:=Aside0.mk A610
            clear A610
            replace H:=Option.bind_eq_some_iff.mp H
            obtain ⟨t599,A620,H⟩:=H
            replace H:(if t599=true then ((laws_toExtS.f kj18 l1).bind fun t600=> ((laws_eqExtS.f kj18 t581 t600).bind fun t603=> (if t603=true then ((laws_markSource.f kj18 t574 t577 t578 t579 1).bind fun bt604=> ((laws_markExtS.f kj18 t581 bt604.1).bind fun bt606=> (if bt606.1 < 0 then (none) else ((laws_eqSource.f kj18 t584 t587 t588 t589 t566 t569 t570 t571).bind fun t608=> (if t608=true then (laws_FnExactAbsorbExts.j1 kj18 l1 t572 (t590 !=t572) l0_0 a0_1 a0_2 a0_3 t566 t569 t570 t571 t584 t587 t588 t589) else (none)))))) else (none)))) else (none))=some r:=H
            have A62:=Aside0.mk A620
            clear A620
            by_cases c63:t599=true
            · subst c63
              have H1:((laws_toExtS.f kj18 l1).bind fun t600=> ((laws_eqExtS.f kj18 t581 t600).bind fun t603=> (if t603=true then ((laws_markSource.f kj18 t574 t577 t578 t579 1).bind fun bt604=> ((laws_markExtS.f kj18 t581 bt604.1).bind fun bt606=> (if bt606.1 < 0 then (none) else ((laws_eqSource.f kj18 t584 t587 t588 t589 t566 t569 t570 t571).bind fun t608=> (if t608=true then (laws_FnExactAbsorbExts.j1 kj18 l1 t572 (t590 !=t572) l0_0 a0_1 a0_2 a0_3 t566 t569 t570 t571 t584 t587 t588 t589) else (none)))))) else (none))))=some r:=by rw [if_pos rfl] at H;exact H
              clear H
              have H:=H1
              clear H1
              replace H:=Option.bind_eq_some_iff.mp H
              obtain ⟨t600,A640,H⟩:=H
              replace H:((laws_eqExtS.f kj18 t581 t600).bind fun t603=> (if t603=true then ((laws_markSource.f kj18 t574 t577 t578 t579 1).bind fun bt604=> ((laws_markExtS.f kj18 t581 bt604.1).bind fun bt606=> (if bt606.1 < 0 then (none) else ((laws_eqSource.f kj18 t584 t587 t588 t589 t566 t569 t570 t571).bind fun t608=> (if t608=true then (laws_FnExactAbsorbExts.j1 kj18 l1 t572 (t590 !=t572) l0_0 a0_1 a0_2 a0_3 t566 t569 t570 t571 t584 t587 t588 t589) else (none)))))) else (none)))=some r:=H
              have A64:=Aside0.mk A640
              clear A640
              replace H:=Option.bind_eq_some_iff.mp H
              obtain ⟨t603,A650,H⟩:=H
              replace H:(if t603=true then ((laws_markSource.f kj18 t574 t577 t578 t579 1).bind fun bt604=> ((laws_markExtS.f kj18 t581 bt604.1).bind fun bt606=> (if bt606.1 < 0 then (none) else ((laws_eqSource.f kj18 t584 t587 t588 t589 t566 t569 t570 t571).bind fun t608=> (if t608=true then (laws_FnExactAbsorbExts.j1 kj18 l1 t572 (t590 !=t572) l0_0 a0_1 a0_2 a0_3 t566 t569 t570 t571 t584 t587 t588 t589) else (none)))))) else (none))=some r:=H
              have A65:=Aside0.mk A650
              clear A650
              by_cases c66:t603=true
              · subst c66
                have H1:((laws_markSource.f kj18 t574 t577 t578 t579 1).bind fun bt604=> ((laws_markExtS.f kj18 t581 bt604.1).bind fun bt606=> (if bt606.1 < 0 then (none) else ((laws_eqSource.f kj18 t584 t587 t588 t589 t566 t569 t570 t571).bind fun t608=> (if t608=true then (laws_FnExactAbsorbExts.j1 kj18 l1 t572 (t590 !=t572) l0_0 a0_1 a0_2 a0_3 t566 t569 t570 t571 t584 t587 t588 t589) else (none))))))=some r:=by rw [if_pos rfl] at H;exact H
                clear H
                have H:=H1
                clear H1
                replace H:=Option.bind_eq_some_iff.mp H
                obtain ⟨⟨t604,t605⟩,A670,H⟩:=H
                replace H:((laws_markExtS.f kj18 t581 t604).bind fun bt606=> (if bt606.1 < 0 then (none) else ((laws_eqSource.f kj18 t584 t587 t588 t589 t566 t569 t570 t571).bind fun t608=> (if t608=true then (laws_FnExactAbsorbExts.j1 kj18 l1 t572 (t590 !=t572) l0_0 a0_1 a0_2 a0_3 t566 t569 t570 t571 t584 t587 t588 t589) else (none)))))=some r:=H
                have A67:=Aside0.mk A670
                clear A670
                replace H:=Option.bind_eq_some_iff.mp H
                obtain ⟨⟨t606,t607⟩,A680,H⟩:=H
                replace H:(if t606 < 0 then (none) else ((laws_eqSource.f kj18 t584 t587 t588 t589 t566 t569 t570 t571).bind fun t608=> (if t608=true then (laws_FnExactAbsorbExts.j1 kj18 l1 t572 (t590 !=t572) l0_0 a0_1 a0_2 a0_3 t566 t569 t570 t571 t584 t587 t588 t589) else (none))))=some r:=H
                have A68:=Aside0.mk A680
                clear A680
                have HC69:=Aside0.mk H
                clear H
                try go_wp2
                have n0_:=Aside0.mk (Kd.R_drew HO_9.out)
                have n1_:=Aside0.mk (Kd.R_drew HO_574000.out)
                have n2_:=Aside0.mk (Kd.R_drew HO_581000.out)
                have n3_:=Aside0.mk (Kd.R_drew HO_592000.out)
                have n4_:=Aside0.mk (blk_drew BK554.out)
                have n5_:=Aside0.mk (blk_drew BK573.out)
                have n6_:=Aside0.mk (blk_drew BK580.out)
                have n7_:=Aside0.mk (blk_drew BK591.out)
                have n8_:=Aside0.mk (below_drew1 HB.out)
                clear HO_9
                clear HO_574000
                clear HO_581000
                clear HO_592000
                clear BK554
                clear BK573
                clear BK580
                clear BK591
                clear HB
                have HO_9:=n0_
                have HO_574000:=n1_
                have HO_581000:=n2_
                have HO_592000:=n3_
                have BK554:=n4_
                have BK573:=n5_
                have BK580:=n6_
                have BK591:=n7_
                have HB:=n8_
                clear n0_ n1_ n2_ n3_ n4_ n5_ n6_ n7_ n8_
                refine start_ (n:=5) (S:=fun w'=> w'.cell? ⟨gb580,0,none⟩=some (.slice Ao36 t574.length co36) ∧ w'.cell? ⟨gb580,1,none⟩=some (.int .i64 t577) ∧ w'.cell? ⟨gb580,2,none⟩=some (.string t578) ∧ w'.cell? ⟨gb580,3,none⟩=some (.int .i64 t579) ∧ w'.cell? ⟨gb554,0,none⟩=some (.slice A0_0 l0_0.length c0_0) ∧ w'.cell? ⟨gb554,1,none⟩=some (.int .i64 a0_1) ∧ w'.cell? ⟨gb554,2,none⟩=some (.string a0_2) ∧ w'.cell? ⟨gb554,3,none⟩=some (.int .i64 a0_3)) (ds:= []) #[false,false,false,false,false] (by kernel_rfl) rfl rfl ⟨(blk_cell BK580.out 0).trans rfl,(blk_cell BK580.out 1).trans rfl,(blk_cell BK580.out 2).trans rfl,(blk_cell BK580.out 3).trans rfl,(blk_cell BK554.out 0).trans rfl,(blk_cell BK554.out 1).trans rfl,(blk_cell BK554.out 2).trans rfl,(blk_cell BK554.out 3).trans rfl⟩ (fun hHeld=> ?_)
                generalize wc.drew=w70 at HO_9 HO_574000 HO_581000 HO_592000 BK554 BK573 BK580 BK591 HB hHeld ⊢
                refine take_ (i:=0) (N:=some 54) (v:=?_) (a':=?_) #[true,false,false,false,false] rfl rfl (by kernel_rfl) (fun _ _ _ h=> h) (Or.inl ⟨by rfl,?_⟩) hHeld ?_ ?_
                rotate_left
                · rintro w' ⟨s0,s1,s2,s3,s4,s5,s6,s7⟩
                  go_simp
                  with_reducible rfl
                rotate_left
                · simp only [Act.put,List.setIfInBounds_toArray,List.set_cons_zero,List.set_cons_succ,i64_w,i32_w]
                  rfl
                refine take_ (i:=1) (N:=some 55) (v:=?_) (a':=?_) #[true,true,false,false,false] rfl rfl (by kernel_rfl) (fun _ _ _ h=> h) (Or.inl ⟨by rfl,?_⟩) hHeld ?_ ?_
                rotate_left
                · rintro w' ⟨s0,s1,s2,s3,s4,s5,s6,s7⟩
                  go_simp
                  with_reducible rfl
                rotate_left
                · simp only [Act.put,List.setIfInBounds_toArray,List.set_cons_zero,List.set_cons_succ,i64_w,i32_w]
                  rfl
                refine one_ (i:=2) (N:=some 56) #[true,true,true,false,false] rfl rfl (by kernel_rfl) (by decide) (fun K hK=> ?_)
                refine goes_ Try.func55 (by kernel_rfl) rfl #[.agg #[.slice A0_0 l0_0.length c0_0,.int .i64 a0_1,.string a0_2,.int .i64 a0_3]] (by rfl) rfl rfl (by (try simp only [List.map_toArray,List.map_cons,List.map_nil]);first|done|rfl|(simp only [List.length_drop,List.length_take];rfl)) ?_
                with_reducible refine (laws_toSource.calls kj18 _ _ l0_0 a0_1 a0_2 a0_3 t593 t596 t597 t598 _ ?side1 ?side2 A61.out).mono ?_
                (case side1=> repeat (first|exact (Kd.C_below HR0_0.out HB.out)|(with_reducible refine Kd.C_alloc ?_ _)|(with_reducible refine Kd.C_drewN ?_ _)|(with_reducible refine Kd.C_drew ?_)))
                (case side2=> exact HC0_0.out)
                rintro e w71 ⟨v594,rfl,ho0,hb⟩
                refine ⟨_,rfl,?_⟩
                have n0_:=Aside0.mk (Kd.R_elder' (by (with_reducible repeat (first|apply Kd.R_alloc|apply Kd.R_drewN|apply Kd.R_drew));exact HO_9.out) (Kd.R_base ho0) hb)
                have n1_:=Aside0.mk (Kd.R_elder' (by (with_reducible repeat (first|apply Kd.R_alloc|apply Kd.R_drewN|apply Kd.R_drew));exact HO_574000.out) (Kd.R_base ho0) hb)
                have n2_:=Aside0.mk (Kd.R_elder' (by (with_reducible repeat (first|apply Kd.R_alloc|apply Kd.R_drewN|apply Kd.R_drew));exact HO_581000.out) (Kd.R_base ho0) hb)
                have n3_:=Aside0.mk (Kd.R_elder' (by (with_reducible repeat (first|apply Kd.R_alloc|apply Kd.R_drewN|apply Kd.R_drew));exact HO_592000.out) (Kd.R_base ho0) hb)
                have n4_:=Aside0.mk (Kd.R_lower (Kd.R_new' (Kd.R_new' (Kd.R_new' (Kd.R_new' ho0 (Kd.R_lt (by (with_reducible repeat (first|apply Kd.R_alloc|apply Kd.R_drewN|apply Kd.R_drew));exact HO_9.out))) (Kd.R_lt (by (with_reducible repeat (first|apply Kd.R_alloc|apply Kd.R_drewN|apply Kd.R_drew));exact HO_574000.out))) (Kd.R_lt (by (with_reducible repeat (first|apply Kd.R_alloc|apply Kd.R_drewN|apply Kd.R_drew));exact HO_581000.out))) (Kd.R_lt (by (with_reducible repeat (first|apply Kd.R_alloc|apply Kd.R_drewN|apply Kd.R_drew));exact HO_592000.out))) (below_size (by repeat (first|(with_reducible first|exact HB.out|apply below_alloc|apply pw_below_drewN|apply below_drew1|refine below_set ?_ GE554.out|refine below_set ?_ GE573.out|refine below_set ?_ GE580.out|refine below_set ?_ GE591.out)|exact HB.out))))
                have n5_:=Aside0.mk (blk_below (g:=gb554) (o:= .cells #[.slice A0_0 l0_0.length c0_0,.int .i64 a0_1,.string a0_2,.int .i64 a0_3] 61 (0,0)) (by (with_reducible repeat (first|apply bN|apply bd|apply bA));exact BK554.out) hb)
                have n6_:=Aside0.mk (blk_below (g:=gb573) (o:= .cells #[.slice Ao30 t566.length co30,.int .i64 t569,.string t570,.int .i64 t571] 36 (0,0)) (by (with_reducible repeat (first|apply bN|apply bd|apply bA));exact BK573.out) hb)
                have n7_:=Aside0.mk (blk_below (g:=gb580) (o:= .cells #[.slice Ao36 t574.length co36,.int .i64 t577,.string t578,.int .i64 t579] 36 (0,0)) (by (with_reducible repeat (first|apply bN|apply bd|apply bA));exact BK580.out) hb)
                have n8_:=Aside0.mk (blk_below (g:=gb591) (o:= .cells #[.slice Ao45 t584.length co45,.int .i64 t587,.string t588,.int .i64 t589] 36 (0,0)) (by (with_reducible repeat (first|apply bN|apply bd|apply bA));exact BK591.out) hb)
                have n9_:=Aside0.mk (below_step (by repeat (first|(with_reducible first|exact HB.out|apply below_alloc|apply pw_below_drewN|apply below_drew1|refine below_set ?_ GE554.out|refine below_set ?_ GE573.out|refine below_set ?_ GE580.out|refine below_set ?_ GE591.out)|exact HB.out)) hb)
                clear HO_9
                clear HO_574000
                clear HO_581000
                clear HO_592000
                clear BK554
                clear BK573
                clear BK580
                clear BK591
                clear HB
                have HO_9:=n0_
                have HO_574000:=n1_
                have HO_581000:=n2_
                have HO_592000:=n3_
                have HO595:=n4_
                have BK554:=n5_
                have BK573:=n6_
                have BK580:=n7_
                have BK591:=n8_
                have HB:=n9_
                clear n0_ n1_ n2_ n3_ n4_ n5_ n6_ n7_ n8_ n9_
                (try clear hb)
                (try clear hb2)
                (try clear hk)
                (try clear hi)
                (try clear ho0)
                obtain ⟨Ao72,co72,eo72⟩:=Kd.R_slice HO595.out
                (first|subst eo72|(injection eo72 with f1_ f2_ f3_;have f4_:=f1_.symm;have f5_:=f3_.symm;clear f1_ f2_ f3_;subst f4_;subst f5_))
                refine hK.out _ _ ⟨(blk_cell BK580.out 0).trans rfl,(blk_cell BK580.out 1).trans rfl,(blk_cell BK580.out 2).trans rfl,(blk_cell BK580.out 3).trans rfl,(blk_cell BK554.out 0).trans rfl,(blk_cell BK554.out 1).trans rfl,(blk_cell BK554.out 2).trans rfl,(blk_cell BK554.out 3).trans rfl⟩ (fun hHeld=> ?_)
                clear hK K
                refine norm_ (a':=?_) ?_ ?_
                rotate_left
                · show Act.put _ (some 56) _=_
                  simp only [Act.put,List.setIfInBounds_toArray,List.set_cons_zero,List.set_cons_succ,i64_w,i32_w]
                  rfl
                refine one_ (i:=3) (N:=some 57) #[true,true,true,true,false] rfl rfl (by kernel_rfl) (by decide) (fun K hK=> ?_)
                refine goes_ Try.func36 (by kernel_rfl) rfl #[.agg #[.slice Ao36 t574.length co36,.int .i64 t577,.string t578,.int .i64 t579],.agg #[.slice Ao72 t593.length co72,.int .i64 t596,.string t597,.int .i64 t598]] (by rfl) rfl rfl (by (try simp only [List.map_toArray,List.map_cons,List.map_nil]);first|done|rfl|(simp only [List.length_drop,List.length_take];rfl)) ?_
                with_reducible refine (laws_eqSource.calls kj18 _ _ t574 t577 t578 t579 _ _ t593 t596 t597 t598 true _ ?side1 ?side2 ?side3 ?side4 A62.out).mono ?_
                (case side1=> repeat (first|exact (Kd.R_reads' HO_581000.out).2.2|(with_reducible refine Kd.C_alloc ?_ _)|(with_reducible refine Kd.C_drewN ?_ _)|(with_reducible refine Kd.C_drew ?_)))
                (case side2=> exact (Kd.R_reads' HO_581000.out).2.1)
                (case side3=> repeat (first|exact (Kd.R_reads' HO595.out).2.2|(with_reducible refine Kd.C_alloc ?_ _)|(with_reducible refine Kd.C_drewN ?_ _)|(with_reducible refine Kd.C_drew ?_)))
                (case side4=> exact (Kd.R_reads' HO595.out).2.1)
                rintro e w73 ⟨rfl,hb⟩
                refine ⟨_,rfl,?_⟩
                have n0_:=Aside0.mk (Kd.R_below (by (with_reducible repeat (first|apply Kd.R_alloc|apply Kd.R_drewN|apply Kd.R_drew));exact HO_9.out) hb)
                have n1_:=Aside0.mk (Kd.R_below (by (with_reducible repeat (first|apply Kd.R_alloc|apply Kd.R_drewN|apply Kd.R_drew));exact HO_574000.out) hb)
                have n2_:=Aside0.mk (Kd.R_below (by (with_reducible repeat (first|apply Kd.R_alloc|apply Kd.R_drewN|apply Kd.R_drew));exact HO_581000.out) hb)
                have n3_:=Aside0.mk (Kd.R_below (by (with_reducible repeat (first|apply Kd.R_alloc|apply Kd.R_drewN|apply Kd.R_drew));exact HO_592000.out) hb)
                have n4_:=Aside0.mk (Kd.R_below (by (with_reducible repeat (first|apply Kd.R_alloc|apply Kd.R_drewN|apply Kd.R_drew));exact HO595.out) hb)
                have n5_:=Aside0.mk (blk_below (g:=gb554) (o:= .cells #[.slice A0_0 l0_0.length c0_0,.int .i64 a0_1,.string a0_2,.int .i64 a0_3] 61 (0,0)) (by (with_reducible repeat (first|apply bN|apply bd|apply bA));exact BK554.out) hb)
                have n6_:=Aside0.mk (blk_below (g:=gb573) (o:= .cells #[.slice Ao30 t566.length co30,.int .i64 t569,.string t570,.int .i64 t571] 36 (0,0)) (by (with_reducible repeat (first|apply bN|apply bd|apply bA));exact BK573.out) hb)
                have n7_:=Aside0.mk (blk_below (g:=gb580) (o:= .cells #[.slice Ao36 t574.length co36,.int .i64 t577,.string t578,.int .i64 t579] 36 (0,0)) (by (with_reducible repeat (first|apply bN|apply bd|apply bA));exact BK580.out) hb)
                have n8_:=Aside0.mk (blk_below (g:=gb591) (o:= .cells #[.slice Ao45 t584.length co45,.int .i64 t587,.string t588,.int .i64 t589] 36 (0,0)) (by (with_reducible repeat (first|apply bN|apply bd|apply bA));exact BK591.out) hb)
                have n9_:=Aside0.mk (below_step (by repeat (first|(with_reducible first|exact HB.out|apply below_alloc|apply pw_below_drewN|apply below_drew1|refine below_set ?_ GE554.out|refine below_set ?_ GE573.out|refine below_set ?_ GE580.out|refine below_set ?_ GE591.out)|exact HB.out)) hb)
                clear HO_9
                clear HO_574000
                clear HO_581000
                clear HO_592000
                clear HO595
                clear BK554
                clear BK573
                clear BK580
                clear BK591
                clear HB
                have HO_9:=n0_
                have HO_574000:=n1_
                have HO_581000:=n2_
                have HO_592000:=n3_
                have HO595:=n4_
                have BK554:=n5_
                have BK573:=n6_
                have BK580:=n7_
                have BK591:=n8_
                have HB:=n9_
                clear n0_ n1_ n2_ n3_ n4_ n5_ n6_ n7_ n8_ n9_
                (try clear hb)
                (try clear hb2)
                (try clear hk)
                (try clear hi)
                refine hK.out _ _ ⟨(blk_cell BK580.out 0).trans rfl,(blk_cell BK580.out 1).trans rfl,(blk_cell BK580.out 2).trans rfl,(blk_cell BK580.out 3).trans rfl,(blk_cell BK554.out 0).trans rfl,(blk_cell BK554.out 1).trans rfl,(blk_cell BK554.out 2).trans rfl,(blk_cell BK554.out 3).trans rfl⟩ (fun hHeld=> ?_)
                clear hK K
                refine norm_ (a':=?_) ?_ ?_
                rotate_left
                · show Act.put _ (some 57) _=_
                  simp only [Act.put,List.setIfInBounds_toArray,List.set_cons_zero,List.set_cons_succ,i64_w,i32_w]
                  rfl
                refine pure_ (i:=4) (N:=some 58) (v:=?_) (a':=?_) #[true,true,true,true,true] rfl rfl (by kernel_rfl) (fun _ _ _ h=> h) (Or.inl ⟨by rfl,?_⟩) ?_ ?_
                rotate_left
                · intro w'
                  go_simp
                  with_reducible rfl
                rotate_left
                · simp only [Act.put,List.setIfInBounds_toArray,List.set_cons_zero,List.set_cons_succ,i64_w,i32_w]
                  rfl
                refine done_ (by kernel_rfl) ?_
                go_upto_region 21 with (first|((with_reducible refine gate_callee (f:=61) rfl ?_);refine goesL_ (some 61) rfl rfl Try.func61 (by kernel_rfl) rfl #[.slice A1 l1.length c1] rfl (by (try simp only [List.map_toArray,List.map_cons,List.map_nil]);first|done|rfl|(simp only [List.length_drop,List.length_take];rfl)) ?_;(with_reducible refine (laws_toExtS.calls kj18 _ _ l1 t600 _ ?side1 ?side2 A64.out).mono ?_);(case side1=> repeat (first|exact (Kd.C_below HR1.out HB.out)|(with_reducible refine Kd.C_alloc ?_ _)|(with_reducible refine Kd.C_drewN ?_ _)|(with_reducible refine Kd.C_drew ?_)));(case side2=> exact HC1.out);rintro e w74 ⟨v601,rfl,ho0,hb⟩;refine ⟨_,rfl,?_⟩;have n0_:=Aside0.mk (Kd.R_elder' (by (with_reducible repeat (first|apply Kd.R_alloc|apply Kd.R_drewN|apply Kd.R_drew));exact HO_9.out) (Kd.R_base ho0) hb);have n1_:=Aside0.mk (Kd.R_elder' (by (with_reducible repeat (first|apply Kd.R_alloc|apply Kd.R_drewN|apply Kd.R_drew));exact HO_574000.out) (Kd.R_base ho0) hb);have n2_:=Aside0.mk (Kd.R_elder' (by (with_reducible repeat (first|apply Kd.R_alloc|apply Kd.R_drewN|apply Kd.R_drew));exact HO_581000.out) (Kd.R_base ho0) hb);have n3_:=Aside0.mk (Kd.R_elder' (by (with_reducible repeat (first|apply Kd.R_alloc|apply Kd.R_drewN|apply Kd.R_drew));exact HO_592000.out) (Kd.R_base ho0) hb);have n4_:=Aside0.mk (Kd.R_elder' (by (with_reducible repeat (first|apply Kd.R_alloc|apply Kd.R_drewN|apply Kd.R_drew));exact HO595.out) (Kd.R_base ho0) hb);have n5_:=Aside0.mk (Kd.R_lower (Kd.R_new' (Kd.R_new' (Kd.R_new' (Kd.R_new' (Kd.R_new' ho0 (Kd.R_lt (by (with_reducible repeat (first|apply Kd.R_alloc|apply Kd.R_drewN|apply Kd.R_drew));exact HO_9.out))) (Kd.R_lt (by (with_reducible repeat (first|apply Kd.R_alloc|apply Kd.R_drewN|apply Kd.R_drew));exact HO_574000.out))) (Kd.R_lt (by (with_reducible repeat (first|apply Kd.R_alloc|apply Kd.R_drewN|apply Kd.R_drew));exact HO_581000.out))) (Kd.R_lt (by (with_reducible repeat (first|apply Kd.R_alloc|apply Kd.R_drewN|apply Kd.R_drew));exact HO_592000.out))) (Kd.R_lt (by (with_reducible repeat (first|apply Kd.R_alloc|apply Kd.R_drewN|apply Kd.R_drew));exact HO595.out))) (below_size (by repeat (first|(with_reducible first|exact HB.out|apply below_alloc|apply pw_below_drewN|apply below_drew1|refine below_set ?_ GE554.out|refine below_set ?_ GE573.out|refine below_set ?_ GE580.out|refine below_set ?_ GE591.out)|exact HB.out))));have n6_:=Aside0.mk (blk_below (g:=gb554) (o:= .cells #[.slice A0_0 l0_0.length c0_0,.int .i64 a0_1,.string a0_2,.int .i64 a0_3] 61 (0,0)) (by (with_reducible repeat (first|apply bN|apply bd|apply bA));exact BK554.out) hb);have n7_:=Aside0.mk (blk_below (g:=gb573) (o:= .cells #[.slice Ao30 t566.length co30,.int .i64 t569,.string t570,.int .i64 t571] 36 (0,0)) (by (with_reducible repeat (first|apply bN|apply bd|apply bA));exact BK573.out) hb);have n8_:=Aside0.mk (blk_below (g:=gb580) (o:= .cells #[.slice Ao36 t574.length co36,.int .i64 t577,.string t578,.int .i64 t579] 36 (0,0)) (by (with_reducible repeat (first|apply bN|apply bd|apply bA));exact BK580.out) hb);have n9_:=Aside0.mk (blk_below (g:=gb591) (o:= .cells #[.slice Ao45 t584.length co45,.int .i64 t587,.string t588,.int .i64 t589] 36 (0,0)) (by (with_reducible repeat (first|apply bN|apply bd|apply bA));exact BK591.out) hb);have n10_:=Aside0.mk (below_step (by repeat (first|(with_reducible first|exact HB.out|apply below_alloc|apply pw_below_drewN|apply below_drew1|refine below_set ?_ GE554.out|refine below_set ?_ GE573.out|refine below_set ?_ GE580.out|refine below_set ?_ GE591.out)|exact HB.out)) hb);clear HO_9;clear HO_574000;clear HO_581000;clear HO_592000;clear HO595;clear BK554;clear BK573;clear BK580;clear BK591;clear HB;have HO_9:=n0_;have HO_574000:=n1_;have HO_581000:=n2_;have HO_592000:=n3_;have HO595:=n4_;have HO602:=n5_;have BK554:=n6_;have BK573:=n7_;have BK580:=n8_;have BK591:=n9_;have HB:=n10_;clear n0_ n1_ n2_ n3_ n4_ n5_ n6_ n7_ n8_ n9_ n10_;(try clear hb);(try clear hb2);(try clear hk);(try clear hi);(try clear ho0);obtain ⟨Ao75,co75,eo75⟩:=Kd.R_slice HO602.out;subst eo75)|((with_reducible refine gate_callee (f:=63) rfl ?_);refine goesL_ (some 62) rfl rfl Try.func63 (by kernel_rfl) rfl #[.slice Ao42 t581.length co42,.slice Ao75 t600.length co75] rfl (by (try simp only [List.map_toArray,List.map_cons,List.map_nil]);first|done|rfl|(simp only [List.length_drop,List.length_take];rfl)) ?_;(with_reducible refine (laws_eqExtS.calls kj18 _ _ t581 _ _ t600 true _ ?side1 ?side2 ?side3 ?side4 A65.out).mono ?_);(case side1=> repeat (first|exact (Kd.R_reads' HO_9.out).2.2|(with_reducible refine Kd.C_alloc ?_ _)|(with_reducible refine Kd.C_drewN ?_ _)|(with_reducible refine Kd.C_drew ?_)));(case side2=> exact (Kd.R_reads' HO_9.out).2.1);(case side3=> repeat (first|exact (Kd.R_reads' HO602.out).2.2|(with_reducible refine Kd.C_alloc ?_ _)|(with_reducible refine Kd.C_drewN ?_ _)|(with_reducible refine Kd.C_drew ?_)));(case side4=> exact (Kd.R_reads' HO602.out).2.1);rintro e w76 ⟨rfl,hb⟩;refine ⟨_,rfl,?_⟩;have n0_:=Aside0.mk (Kd.R_below (by (with_reducible repeat (first|apply Kd.R_alloc|apply Kd.R_drewN|apply Kd.R_drew));exact HO_9.out) hb);have n1_:=Aside0.mk (Kd.R_below (by (with_reducible repeat (first|apply Kd.R_alloc|apply Kd.R_drewN|apply Kd.R_drew));exact HO_574000.out) hb);have n2_:=Aside0.mk (Kd.R_below (by (with_reducible repeat (first|apply Kd.R_alloc|apply Kd.R_drewN|apply Kd.R_drew));exact HO_581000.out) hb);have n3_:=Aside0.mk (Kd.R_below (by (with_reducible repeat (first|apply Kd.R_alloc|apply Kd.R_drewN|apply Kd.R_drew));exact HO_592000.out) hb);have n4_:=Aside0.mk (Kd.R_below (by (with_reducible repeat (first|apply Kd.R_alloc|apply Kd.R_drewN|apply Kd.R_drew));exact HO595.out) hb);have n5_:=Aside0.mk (Kd.R_below (by (with_reducible repeat (first|apply Kd.R_alloc|apply Kd.R_drewN|apply Kd.R_drew));exact HO602.out) hb);have n6_:=Aside0.mk (blk_below (g:=gb554) (o:= .cells #[.slice A0_0 l0_0.length c0_0,.int .i64 a0_1,.string a0_2,.int .i64 a0_3] 61 (0,0)) (by (with_reducible repeat (first|apply bN|apply bd|apply bA));exact BK554.out) hb);have n7_:=Aside0.mk (blk_below (g:=gb573) (o:= .cells #[.slice Ao30 t566.length co30,.int .i64 t569,.string t570,.int .i64 t571] 36 (0,0)) (by (with_reducible repeat (first|apply bN|apply bd|apply bA));exact BK573.out) hb);have n8_:=Aside0.mk (blk_below (g:=gb580) (o:= .cells #[.slice Ao36 t574.length co36,.int .i64 t577,.string t578,.int .i64 t579] 36 (0,0)) (by (with_reducible repeat (first|apply bN|apply bd|apply bA));exact BK580.out) hb);have n9_:=Aside0.mk (blk_below (g:=gb591) (o:= .cells #[.slice Ao45 t584.length co45,.int .i64 t587,.string t588,.int .i64 t589] 36 (0,0)) (by (with_reducible repeat (first|apply bN|apply bd|apply bA));exact BK591.out) hb);have n10_:=Aside0.mk (below_step (by repeat (first|(with_reducible first|exact HB.out|apply below_alloc|apply pw_below_drewN|apply below_drew1|refine below_set ?_ GE554.out|refine below_set ?_ GE573.out|refine below_set ?_ GE580.out|refine below_set ?_ GE591.out)|exact HB.out)) hb);clear HO_9;clear HO_574000;clear HO_581000;clear HO_592000;clear HO595;clear HO602;clear BK554;clear BK573;clear BK580;clear BK591;clear HB;have HO_9:=n0_;have HO_574000:=n1_;have HO_581000:=n2_;have HO_592000:=n3_;have HO595:=n4_;have HO602:=n5_;have BK554:=n6_;have BK573:=n7_;have BK580:=n8_;have BK591:=n9_;have HB:=n10_;clear n0_ n1_ n2_ n3_ n4_ n5_ n6_ n7_ n8_ n9_ n10_;(try clear hb);(try clear hb2);(try clear hk);(try clear hi);have hnb77:=NB580_554.out;have hnc77:=NB554_580.out;have hnb78:=NB580_573.out;have hnc78:=NB573_580.out;have hnb79:=NB580_591.out;have hnc79:=NB591_580.out;have hcz80_0:w76.cell? ⟨gb580,0,none⟩=some (.slice Ao36 t574.length co36):=(blk_cell BK580.out 0).trans rfl;have hcz80_1:w76.cell? ⟨gb580,1,none⟩=some (.int .i64 t577):=(blk_cell BK580.out 1).trans rfl;have hcz80_2:w76.cell? ⟨gb580,2,none⟩=some (.string t578):=(blk_cell BK580.out 2).trans rfl;have hcz80_3:w76.cell? ⟨gb580,3,none⟩=some (.int .i64 t579):=(blk_cell BK580.out 3).trans rfl;have hfz80_0:=blk_frozen BK580.out 0;have hfz80_1:=blk_frozen BK580.out 1;have hfz80_2:=blk_frozen BK580.out 2;have hfz80_3:=blk_frozen BK580.out 3)|((with_reducible refine gate_callee (f:=37) rfl ?_);refine goesL_ (some 66) rfl rfl Try.func37 (by kernel_rfl) rfl #[.agg #[.slice Ao36 t574.length co36,.int .i64 t577,.string t578,.int .i64 t579],.int .i64 1] rfl (by (try simp only [List.map_toArray,List.map_cons,List.map_nil]);first|done|rfl|(simp only [List.length_drop,List.length_take];rfl)) ?_;(with_reducible refine (laws_markSource.calls kj18 (fun k_=> some k_=(.slice Ao36 t574.length co36:Value).ownBlock) (.slice Ao36 t574.length co36) t574 t577 t578 t579 1 t604 t605 w _ ?side1 ?side2 A67.out).mono ?_);(case side1=> repeat (first|(with_reducible first|exact HB.out|apply below_alloc|apply pw_below_drewN|apply below_drew1|refine below_set ?_ GE554.out|refine below_set ?_ GE573.out|refine below_set ?_ GE580.out|refine below_set ?_ GE591.out)|exact HB.out));(case side2=> exact Kd.R_tight rfl HO_581000.out);rintro e w81 ⟨rfl,hy0,hb,hkp⟩;refine ⟨_,rfl,?_⟩;have n0_:=Aside0.mk (Kd.R_mono (ok':=fun k_=> some k_ ≠ (.slice Ao30 t566.length co30:Value).ownBlock ∧ some k_ ≠ (.slice Ao36 t574.length co36:Value).ownBlock ∧ some k_ ≠ (.slice Ao45 t584.length co45:Value).ownBlock ∧ some k_ ≠ (.slice Ao72 t593.length co72:Value).ownBlock ∧ some k_ ≠ (.slice Ao75 t600.length co75:Value).ownBlock) (Kd.R_keptB (HO_9.out) hkp (fun k_ hk_ hs_=> (hk_.1.1.2.1) hs_)) (fun k_ hk_=> ⟨hk_.1.1.1.1,hk_.1.1.1.2.1,hk_.1.1.1.2.2,hk_.1.1.2,hk_.1.2⟩));have n1_:=Aside0.mk (Kd.R_mono (ok':=fun k_=> some k_ ≠ (.slice Ao42 t581.length co42:Value).ownBlock ∧ some k_ ≠ (.slice Ao36 t574.length co36:Value).ownBlock ∧ some k_ ≠ (.slice Ao45 t584.length co45:Value).ownBlock ∧ some k_ ≠ (.slice Ao72 t593.length co72:Value).ownBlock ∧ some k_ ≠ (.slice Ao75 t600.length co75:Value).ownBlock) (Kd.R_keptB (HO_574000.out) hkp (fun k_ hk_ hs_=> (hk_.1.1.2.1) hs_)) (fun k_ hk_=> ⟨hk_.1.1.1.1,hk_.1.1.1.2.1,hk_.1.1.1.2.2,hk_.1.1.2,hk_.1.2⟩));have n2_:=Aside0.mk (Kd.R_reok rfl hy0 (fun k_ e_=> HO_581000.out.1 k_ e_));have n3_:=Aside0.mk (Kd.R_mono (ok':=fun k_=> some k_ ≠ (.slice Ao42 t581.length co42:Value).ownBlock ∧ some k_ ≠ (.slice Ao30 t566.length co30:Value).ownBlock ∧ some k_ ≠ (.slice Ao36 t574.length co36:Value).ownBlock ∧ some k_ ≠ (.slice Ao72 t593.length co72:Value).ownBlock ∧ some k_ ≠ (.slice Ao75 t600.length co75:Value).ownBlock) (Kd.R_keptB (HO_592000.out) hkp (fun k_ hk_ hs_=> (hk_.1.1.2.2) hs_)) (fun k_ hk_=> ⟨hk_.1.1.1.1,hk_.1.1.1.2.1,hk_.1.1.1.2.2,hk_.1.1.2,hk_.1.2⟩));have n4_:=Aside0.mk (blk_kept (by (with_reducible repeat (first|apply bN|apply bd|apply bA));exact BK554.out) hkp (fun hs_=> (fun e_=> (Kd.R_ne HO_581000.out BK554.out (by decide)) e_) hs_));have n5_:=Aside0.mk (blk_kept (by (with_reducible repeat (first|apply bN|apply bd|apply bA));exact BK573.out) hkp (fun hs_=> (fun e_=> (Kd.R_ne HO_581000.out BK573.out (by decide)) e_) hs_));have n6_:=Aside0.mk (blk_kept (by (with_reducible repeat (first|apply bN|apply bd|apply bA));exact BK580.out) hkp (fun hs_=> (fun e_=> (Kd.R_ne HO_581000.out BK580.out (by decide)) e_) hs_));have n7_:=Aside0.mk (blk_kept (by (with_reducible repeat (first|apply bN|apply bd|apply bA));exact BK591.out) hkp (fun hs_=> (fun e_=> (Kd.R_ne HO_581000.out BK591.out (by decide)) e_) hs_));have n8_:=Aside0.mk (Kd.R_mono (ok':=fun k_=> some k_ ≠ (.slice Ao42 t581.length co42:Value).ownBlock ∧ some k_ ≠ (.slice Ao30 t566.length co30:Value).ownBlock ∧ some k_ ≠ (.slice Ao36 t574.length co36:Value).ownBlock ∧ some k_ ≠ (.slice Ao45 t584.length co45:Value).ownBlock ∧ some k_ ≠ (.slice Ao75 t600.length co75:Value).ownBlock) (Kd.R_keptB (HO595.out) hkp (fun k_ hk_ hs_=> (hk_.1.1.2) hs_)) (fun k_ hk_=> ⟨hk_.1.1.1.1.1.2,hk_.1.1.1.1.2,hk_.1.1.1.2,hk_.1.1.2,hk_.1.2⟩));have n9_:=Aside0.mk (Kd.R_mono (ok':=fun k_=> some k_ ≠ (.slice Ao42 t581.length co42:Value).ownBlock ∧ some k_ ≠ (.slice Ao30 t566.length co30:Value).ownBlock ∧ some k_ ≠ (.slice Ao36 t574.length co36:Value).ownBlock ∧ some k_ ≠ (.slice Ao45 t584.length co45:Value).ownBlock ∧ some k_ ≠ (.slice Ao72 t593.length co72:Value).ownBlock) (Kd.R_keptB (HO602.out) hkp (fun k_ hk_ hs_=> (hk_.1.1.2) hs_)) (fun k_ hk_=> ⟨hk_.1.1.1.1.1.2,hk_.1.1.1.1.2,hk_.1.1.1.2,hk_.1.1.2,hk_.1.2⟩));have n10_:=Aside0.mk (hb);clear HO_9;clear HO_574000;clear HO_581000;clear HO_592000;clear BK554;clear BK573;clear BK580;clear BK591;clear HO595;clear HO602;clear HB;have HO_9:=n0_;have HO_574000:=n1_;have HO_581000:=n2_;have HO_592000:=n3_;have BK554:=n4_;have BK573:=n5_;have BK580:=n6_;have BK591:=n7_;have HO595:=n8_;have HO602:=n9_;have HB:=n10_;clear n0_ n1_ n2_ n3_ n4_ n5_ n6_ n7_ n8_ n9_ n10_;(try clear hb);(try clear hkp);(try clear hy0))|((with_reducible refine gate_callee (f:=64) rfl ?_);refine goesL_ (some 69) rfl rfl Try.func64 (by kernel_rfl) rfl #[.slice Ao42 t581.length co42,.int .i64 t604] rfl (by (try simp only [List.map_toArray,List.map_cons,List.map_nil]);first|done|rfl|(simp only [List.length_drop,List.length_take];rfl)) ?_;(with_reducible refine (laws_markExtS.calls kj18 (fun k_=> some k_=(.slice Ao42 t581.length co42:Value).ownBlock) (.slice Ao42 t581.length co42) t581 t604 t606 t607 w _ ?side1 ?side2 A68.out).mono ?_);(case side1=> repeat (first|(with_reducible first|exact HB.out|apply below_alloc|apply pw_below_drewN|apply below_drew1|refine below_set ?_ GE554.out|refine below_set ?_ GE573.out|refine below_set ?_ GE580.out|refine below_set ?_ GE591.out)|exact HB.out));(case side2=> exact Kd.R_tight rfl HO_9.out);rintro e w82 ⟨rfl,hy0,hb,hkp⟩;refine ⟨_,rfl,?_⟩;have n0_:=Aside0.mk (Kd.R_reok rfl hy0 (fun k_ e_=> HO_9.out.1 k_ e_));have n1_:=Aside0.mk (Kd.R_mono (ok':=fun k_=> some k_ ≠ (.slice Ao42 t581.length co42:Value).ownBlock ∧ some k_ ≠ (.slice Ao36 t574.length co36:Value).ownBlock ∧ some k_ ≠ (.slice Ao45 t584.length co45:Value).ownBlock ∧ some k_ ≠ (.slice Ao72 t593.length co72:Value).ownBlock ∧ some k_ ≠ (.slice Ao75 t600.length co75:Value).ownBlock) (Kd.R_keptB (HO_574000.out) hkp (fun k_ hk_ hs_=> (hk_.1) hs_)) (fun k_ hk_=> ⟨hk_.1.1,hk_.1.2.1,hk_.1.2.2.1,hk_.1.2.2.2.1,hk_.1.2.2.2.2⟩));have n2_:=Aside0.mk (Kd.R_mono (ok':=fun k_=> some k_ ≠ (.slice Ao42 t581.length co42:Value).ownBlock ∧ some k_ ≠ (.slice Ao30 t566.length co30:Value).ownBlock ∧ some k_ ≠ (.slice Ao45 t584.length co45:Value).ownBlock ∧ some k_ ≠ (.slice Ao72 t593.length co72:Value).ownBlock ∧ some k_ ≠ (.slice Ao75 t600.length co75:Value).ownBlock) (Kd.R_keptB (HO_581000.out) hkp (fun k_ hk_ hs_=> (hk_.1.1.1) hs_)) (fun k_ hk_=> ⟨hk_.1.1.1.1,hk_.1.1.1.2.1,hk_.1.1.1.2.2,hk_.1.1.2,hk_.1.2⟩));have n3_:=Aside0.mk (Kd.R_mono (ok':=fun k_=> some k_ ≠ (.slice Ao42 t581.length co42:Value).ownBlock ∧ some k_ ≠ (.slice Ao30 t566.length co30:Value).ownBlock ∧ some k_ ≠ (.slice Ao36 t574.length co36:Value).ownBlock ∧ some k_ ≠ (.slice Ao72 t593.length co72:Value).ownBlock ∧ some k_ ≠ (.slice Ao75 t600.length co75:Value).ownBlock) (Kd.R_keptB (HO_592000.out) hkp (fun k_ hk_ hs_=> (hk_.1) hs_)) (fun k_ hk_=> ⟨hk_.1.1,hk_.1.2.1,hk_.1.2.2.1,hk_.1.2.2.2.1,hk_.1.2.2.2.2⟩));have n4_:=Aside0.mk (blk_kept (by (with_reducible repeat (first|apply bN|apply bd|apply bA));exact BK554.out) hkp (fun hs_=> (fun e_=> (Kd.R_ne HO_9.out BK554.out (by decide)) e_) hs_));have n5_:=Aside0.mk (blk_kept (by (with_reducible repeat (first|apply bN|apply bd|apply bA));exact BK573.out) hkp (fun hs_=> (fun e_=> (Kd.R_ne HO_9.out BK573.out (by decide)) e_) hs_));have n6_:=Aside0.mk (blk_kept (by (with_reducible repeat (first|apply bN|apply bd|apply bA));exact BK580.out) hkp (fun hs_=> (fun e_=> (Kd.R_ne HO_9.out BK580.out (by decide)) e_) hs_));have n7_:=Aside0.mk (blk_kept (by (with_reducible repeat (first|apply bN|apply bd|apply bA));exact BK591.out) hkp (fun hs_=> (fun e_=> (Kd.R_ne HO_9.out BK591.out (by decide)) e_) hs_));have n8_:=Aside0.mk (Kd.R_mono (ok':=fun k_=> some k_ ≠ (.slice Ao42 t581.length co42:Value).ownBlock ∧ some k_ ≠ (.slice Ao30 t566.length co30:Value).ownBlock ∧ some k_ ≠ (.slice Ao36 t574.length co36:Value).ownBlock ∧ some k_ ≠ (.slice Ao45 t584.length co45:Value).ownBlock ∧ some k_ ≠ (.slice Ao75 t600.length co75:Value).ownBlock) (Kd.R_keptB (HO595.out) hkp (fun k_ hk_ hs_=> (hk_.1) hs_)) (fun k_ hk_=> ⟨hk_.1.1,hk_.1.2.1,hk_.1.2.2.1,hk_.1.2.2.2.1,hk_.1.2.2.2.2⟩));have n9_:=Aside0.mk (Kd.R_mono (ok':=fun k_=> some k_ ≠ (.slice Ao42 t581.length co42:Value).ownBlock ∧ some k_ ≠ (.slice Ao30 t566.length co30:Value).ownBlock ∧ some k_ ≠ (.slice Ao36 t574.length co36:Value).ownBlock ∧ some k_ ≠ (.slice Ao45 t584.length co45:Value).ownBlock ∧ some k_ ≠ (.slice Ao72 t593.length co72:Value).ownBlock) (Kd.R_keptB (HO602.out) hkp (fun k_ hk_ hs_=> (hk_.1) hs_)) (fun k_ hk_=> ⟨hk_.1.1,hk_.1.2.1,hk_.1.2.2.1,hk_.1.2.2.2.1,hk_.1.2.2.2.2⟩));have n10_:=Aside0.mk (hb);clear HO_9;clear HO_574000;clear HO_581000;clear HO_592000;clear BK554;clear BK573;clear BK580;clear BK591;clear HO595;clear HO602;clear HB;have HO_9:=n0_;have HO_574000:=n1_;have HO_581000:=n2_;have HO_592000:=n3_;have BK554:=n4_;have BK573:=n5_;have BK580:=n6_;have BK591:=n7_;have HO595:=n8_;have HO602:=n9_;have HB:=n10_;clear n0_ n1_ n2_ n3_ n4_ n5_ n6_ n7_ n8_ n9_ n10_;(try clear hb);(try clear hkp);(try clear hy0)))
                (try simp only [Act.put,List.setIfInBounds_toArray,List.set_cons_zero,List.set_cons_succ])
                go_cut [82] (fun v82 wc=> ∃ (kq:Nat) (x82_68:Bool),v82= .bool x82_68 ∧ Aside0 (laws_FnExactAbsorbExts.j1 kq l1 t572 x82_68 l0_0 a0_1 a0_2 a0_3 t566 t569 t570 t571 t584 t587 t588 t589=some r) ∧ Aside0 (kq ≤ kj18) ∧ Aside0 (Kd.R k79 79 wc w.heap.size (fun k_=> some k_ ≠ ((.slice Ao36 t574.length co36):Value).ownBlock ∧ some k_ ≠ ((.slice Ao45 t584.length co45):Value).ownBlock) (.slice Ao30 t566.length co30) t566) ∧ Aside0 (Kd.R k79 79 wc w.heap.size (fun k_=> some k_ ≠ ((.slice Ao30 t566.length co30):Value).ownBlock ∧ some k_ ≠ ((.slice Ao45 t584.length co45):Value).ownBlock) (.slice Ao36 t574.length co36) t605) ∧ Aside0 (Kd.R k79 79 wc w.heap.size (fun k_=> some k_ ≠ ((.slice Ao30 t566.length co30):Value).ownBlock ∧ some k_ ≠ ((.slice Ao36 t574.length co36):Value).ownBlock) (.slice Ao45 t584.length co45) t584) ∧ Aside0 (wc.heap[gb554]?=some (.cells #[(.slice A0_0 l0_0.length c0_0),.int .i64 a0_1,.string a0_2,.int .i64 a0_3] 61 (0,0))) ∧ Aside0 (wc.heap[gb573]?=some (.cells #[(.slice Ao30 t566.length co30),.int .i64 t569,.string t570,.int .i64 t571] 36 (0,0))) ∧ Aside0 (wc.heap[gb580]?=some (.cells #[(.slice Ao36 t574.length co36),.int .i64 t577,.string t578,.int .i64 t579] 36 (0,0))) ∧ Aside0 (wc.heap[gb591]?=some (.cells #[(.slice Ao45 t584.length co45),.int .i64 t587,.string t588,.int .i64 t589] 36 (0,0))) ∧ Aside0 (Below w.heap.size w wc))
                case first=>
                  have H:=HC69.out
                  clear HC69
                  by_cases c83:t606 < 0
                  · rw [if_pos c83] at H
                    exact absurd H (by simp)
                  · rw [if_neg c83] at H
                    have c83b0:decide (t606 < 0)=false:=decide_eq_false c83
                    clear c83
                    (first|rw [c83b0]|(simp only [i64_w,i32_w];rw [c83b0])|skip)
                    replace H:=Option.bind_eq_some_iff.mp H
                    obtain ⟨t608,A840,H⟩:=H
                    replace H:(if t608=true then (laws_FnExactAbsorbExts.j1 kj18 l1 t572 (t590 !=t572) l0_0 a0_1 a0_2 a0_3 t566 t569 t570 t571 t584 t587 t588 t589) else (none))=some r:=H
                    have A84:=Aside0.mk A840
                    clear A840
                    by_cases c85:t608=true
                    · subst c85
                      have H1:(laws_FnExactAbsorbExts.j1 kj18 l1 t572 (t590 !=t572) l0_0 a0_1 a0_2 a0_3 t566 t569 t570 t571 t584 t587 t588 t589)=some r:=by rw [if_pos rfl] at H;exact H
                      clear H
                      have H:=H1
                      clear H1
                      have H':=Aside0.mk H
                      clear H
                      have hnb86:=NB591_554.out
                      have hnc86:=NB554_591.out
                      have hnb87:=NB591_573.out
                      have hnc87:=NB573_591.out
                      have hnb88:=NB591_580.out
                      have hnc88:=NB580_591.out
                      have hcz89_0:w82.cell? ⟨gb591,0,none⟩=some (.slice Ao45 t584.length co45):=(blk_cell BK591.out 0).trans rfl
                      have hcz89_1:w82.cell? ⟨gb591,1,none⟩=some (.int .i64 t587):=(blk_cell BK591.out 1).trans rfl
                      have hcz89_2:w82.cell? ⟨gb591,2,none⟩=some (.string t588):=(blk_cell BK591.out 2).trans rfl
                      have hcz89_3:w82.cell? ⟨gb591,3,none⟩=some (.int .i64 t589):=(blk_cell BK591.out 3).trans rfl
                      have hfz89_0:=blk_frozen BK591.out 0
                      have hfz89_1:=blk_frozen BK591.out 1
                      have hfz89_2:=blk_frozen BK591.out 2
                      have hfz89_3:=blk_frozen BK591.out 3
                      have hnb90:=NB573_554.out
                      have hnc90:=NB554_573.out
                      have hnb91:=NB573_580.out
                      have hnc91:=NB580_573.out
                      have hcz92_0:w82.cell? ⟨gb573,0,none⟩=some (.slice Ao30 t566.length co30):=(blk_cell BK573.out 0).trans rfl
                      have hcz92_1:w82.cell? ⟨gb573,1,none⟩=some (.int .i64 t569):=(blk_cell BK573.out 1).trans rfl
                      have hcz92_2:w82.cell? ⟨gb573,2,none⟩=some (.string t570):=(blk_cell BK573.out 2).trans rfl
                      have hcz92_3:w82.cell? ⟨gb573,3,none⟩=some (.int .i64 t571):=(blk_cell BK573.out 3).trans rfl
                      have hfz92_0:=blk_frozen BK573.out 0
                      have hfz92_1:=blk_frozen BK573.out 1
                      have hfz92_2:=blk_frozen BK573.out 2
                      have hfz92_3:=blk_frozen BK573.out 3
                      go_wp2_with (first|(go_at_call 36;(with_reducible refine (laws_eqSource.calls kj18 _ _ t584 t587 t588 t589 _ _ t566 t569 t570 t571 true _ ?side1 ?side2 ?side3 ?side4 A84.out).mono ?_);(case side1=> repeat (first|exact (Kd.R_reads' HO_592000.out).2.2|(with_reducible refine Kd.C_alloc ?_ _)|(with_reducible refine Kd.C_drewN ?_ _)|(with_reducible refine Kd.C_drew ?_)));(case side2=> exact (Kd.R_reads' HO_592000.out).2.1);(case side3=> repeat (first|exact (Kd.R_reads' HO_574000.out).2.2|(with_reducible refine Kd.C_alloc ?_ _)|(with_reducible refine Kd.C_drewN ?_ _)|(with_reducible refine Kd.C_drew ?_)));(case side4=> exact (Kd.R_reads' HO_574000.out).2.1);rintro e w93 ⟨rfl,hb⟩;have n0_:=Aside0.mk (Kd.R_below (by (with_reducible repeat (first|apply Kd.R_alloc|apply Kd.R_drewN|apply Kd.R_drew));exact HO_9.out) hb);have n1_:=Aside0.mk (Kd.R_below (by (with_reducible repeat (first|apply Kd.R_alloc|apply Kd.R_drewN|apply Kd.R_drew));exact HO_574000.out) hb);have n2_:=Aside0.mk (Kd.R_below (by (with_reducible repeat (first|apply Kd.R_alloc|apply Kd.R_drewN|apply Kd.R_drew));exact HO_581000.out) hb);have n3_:=Aside0.mk (Kd.R_below (by (with_reducible repeat (first|apply Kd.R_alloc|apply Kd.R_drewN|apply Kd.R_drew));exact HO_592000.out) hb);have n4_:=Aside0.mk (Kd.R_below (by (with_reducible repeat (first|apply Kd.R_alloc|apply Kd.R_drewN|apply Kd.R_drew));exact HO595.out) hb);have n5_:=Aside0.mk (Kd.R_below (by (with_reducible repeat (first|apply Kd.R_alloc|apply Kd.R_drewN|apply Kd.R_drew));exact HO602.out) hb);have n6_:=Aside0.mk (blk_below (g:=gb554) (o:= .cells #[.slice A0_0 l0_0.length c0_0,.int .i64 a0_1,.string a0_2,.int .i64 a0_3] 61 (0,0)) (by (with_reducible repeat (first|apply bN|apply bd|apply bA));exact BK554.out) hb);have n7_:=Aside0.mk (blk_below (g:=gb573) (o:= .cells #[.slice Ao30 t566.length co30,.int .i64 t569,.string t570,.int .i64 t571] 36 (0,0)) (by (with_reducible repeat (first|apply bN|apply bd|apply bA));exact BK573.out) hb);have n8_:=Aside0.mk (blk_below (g:=gb580) (o:= .cells #[.slice Ao36 t574.length co36,.int .i64 t577,.string t578,.int .i64 t579] 36 (0,0)) (by (with_reducible repeat (first|apply bN|apply bd|apply bA));exact BK580.out) hb);have n9_:=Aside0.mk (blk_below (g:=gb591) (o:= .cells #[.slice Ao45 t584.length co45,.int .i64 t587,.string t588,.int .i64 t589] 36 (0,0)) (by (with_reducible repeat (first|apply bN|apply bd|apply bA));exact BK591.out) hb);have n10_:=Aside0.mk (below_step (by repeat (first|(with_reducible first|exact HB.out|apply below_alloc|apply pw_below_drewN|apply below_drew1|refine below_set ?_ GE554.out|refine below_set ?_ GE573.out|refine below_set ?_ GE580.out|refine below_set ?_ GE591.out)|exact HB.out)) hb);clear HO_9;clear HO_574000;clear HO_581000;clear HO_592000;clear HO595;clear HO602;clear BK554;clear BK573;clear BK580;clear BK591;clear HB;have HO_9:=n0_;have HO_574000:=n1_;have HO_581000:=n2_;have HO_592000:=n3_;have HO595:=n4_;have HO602:=n5_;have BK554:=n6_;have BK573:=n7_;have BK580:=n8_;have BK591:=n9_;have HB:=n10_;clear n0_ n1_ n2_ n3_ n4_ n5_ n6_ n7_ n8_ n9_ n10_;(try clear hb);(try clear hb2);(try clear hk);(try clear hi)))
                      go_meet
                      case rel=> exact ⟨_,((t590 !=t572)),(by first|rfl|(simp;done)|(simp [*];done)),H',⟨by have:=HJ18.out;first|omega|exact Nat.le_refl _⟩,⟨by (with_reducible repeat (first|apply Kd.R_alloc|apply Kd.R_drewN|apply Kd.R_drew));exact Kd.R_mono HO_574000.out (fun _ hk=> ⟨hk.2.1,hk.2.2.1⟩)⟩,⟨by (with_reducible repeat (first|apply Kd.R_alloc|apply Kd.R_drewN|apply Kd.R_drew));exact Kd.R_mono HO_581000.out (fun _ hk=> ⟨hk.2.1,hk.2.2.1⟩)⟩,⟨by (with_reducible repeat (first|apply Kd.R_alloc|apply Kd.R_drewN|apply Kd.R_drew));exact Kd.R_mono HO_592000.out (fun _ hk=> ⟨hk.2.1,hk.2.2.1⟩)⟩,⟨by (with_reducible repeat (first|apply bN|apply bd|apply bA));exact BK554.out⟩,⟨by (with_reducible repeat (first|apply bN|apply bd|apply bA));exact BK573.out⟩,⟨by (with_reducible repeat (first|apply bN|apply bd|apply bA));exact BK580.out⟩,⟨by (with_reducible repeat (first|apply bN|apply bd|apply bA));exact BK591.out⟩,⟨by repeat (first|(with_reducible first|exact HB.out|apply below_alloc|apply pw_below_drewN|apply below_drew1|refine below_set ?_ GE554.out|refine below_set ?_ GE573.out|refine below_set ?_ GE580.out|refine below_set ?_ GE591.out)|exact HB.out)⟩⟩
                    · replace c85:=Bool.eq_false_iff.mpr c85
                      subst c85
                      have H1:(none)=some r:=by rw [if_neg (show ¬ (false=true) by decide)] at H;exact H
                      clear H
                      have H:=H1
                      clear H1
                      exact absurd H (by simp)
                case rest=>
                  clear HC69
                  try clear c1
                  try clear p2
                  try clear c3
                  try clear c4
                  try clear c4b0
                  try clear c5
                  try clear c6
                  try clear c7
                  try clear c8
                  try clear c9
                  try clear c9b0
                  try clear c17
                  try clear c31
                  try clear c36
                  try clear c37
                  try clear c38
                  try clear c46
                  try clear c47
                  try clear c48
                  try clear c51
                  try clear c52
                  try clear c53
                  try clear c54
                  try clear c55
                  try clear c56
                  try clear c57
                  try clear c59
                  try clear c60
                  try clear c61
                  try clear c63
                  try clear c64
                  try clear c66
                  try clear c67
                  try clear c68
                  try clear c77
                  try clear c78
                  try clear c79
                  try clear c83
                  try clear c83b0
                  try clear c85
                  try clear c86
                  try clear c87
                  try clear c88
                  try clear c90
                  try clear c91
                  try clear hcz11_0
                  try clear hcz11_1
                  try clear hcz11_2
                  try clear hcz11_3
                  try clear hcz21_0
                  try clear hcz21_1
                  try clear hcz21_2
                  try clear hcz21_3
                  try clear hcz23_0
                  try clear hcz23_1
                  try clear hcz23_2
                  try clear hcz23_3
                  try clear hcz32_0
                  try clear hcz32_1
                  try clear hcz32_2
                  try clear hcz32_3
                  try clear hcz33_0
                  try clear hcz33_1
                  try clear hcz33_2
                  try clear hcz33_3
                  try clear hcz39_0
                  try clear hcz39_1
                  try clear hcz39_2
                  try clear hcz39_3
                  try clear hcz41_0
                  try clear hcz41_1
                  try clear hcz41_2
                  try clear hcz41_3
                  try clear hcz49_0
                  try clear hcz49_1
                  try clear hcz49_2
                  try clear hcz49_3
                  try clear hcz55_0
                  try clear hcz55_1
                  try clear hcz55_2
                  try clear hcz55_3
                  try clear hcz58_0
                  try clear hcz58_1
                  try clear hcz58_2
                  try clear hcz58_3
                  try clear hcz6_0
                  try clear hcz6_1
                  try clear hcz6_2
                  try clear hcz6_3
                  try clear hcz80_0
                  try clear hcz80_1
                  try clear hcz80_2
                  try clear hcz80_3
                  try clear hcz89_0
                  try clear hcz89_1
                  try clear hcz89_2
                  try clear hcz89_3
                  try clear hcz92_0
                  try clear hcz92_1
                  try clear hcz92_2
                  try clear hcz92_3
                  try clear hfz11_0
                  try clear hfz11_1
                  try clear hfz11_2
                  try clear hfz11_3
                  try clear hfz21_0
                  try clear hfz21_1
                  try clear hfz21_2
                  try clear hfz21_3
                  try clear hfz23_0
                  try clear hfz23_1
                  try clear hfz23_2
                  try clear hfz23_3
                  try clear hfz32_0
                  try clear hfz32_1
                  try clear hfz32_2
                  try clear hfz32_3
                  try clear hfz33_0
                  try clear hfz33_1
                  try clear hfz33_2
                  try clear hfz33_3
                  try clear hfz39_0
                  try clear hfz39_1
                  try clear hfz39_2
                  try clear hfz39_3
                  try clear hfz41_0
                  try clear hfz41_1
                  try clear hfz41_2
                  try clear hfz41_3
                  try clear hfz49_0
                  try clear hfz49_1
                  try clear hfz49_2
                  try clear hfz49_3
                  try clear hfz55_0
                  try clear hfz55_1
                  try clear hfz55_2
                  try clear hfz55_3
                  try clear hfz58_0
                  try clear hfz58_1
                  try clear hfz58_2
                  try clear hfz58_3
                  try clear hfz6_0
                  try clear hfz6_1
                  try clear hfz6_2
                  try clear hfz6_3
                  try clear hfz80_0
                  try clear hfz80_1
                  try clear hfz80_2
                  try clear hfz80_3
                  try clear hfz89_0
                  try clear hfz89_1
                  try clear hfz89_2
                  try clear hfz89_3
                  try clear hfz92_0
                  try clear hfz92_1
                  try clear hfz92_2
                  try clear hfz92_3
                  try clear p2
                  obtain ⟨kq,x82_68,rfl,HA,HJ68,HO_574000,HO_581000,HO_592000,BK554,BK573,BK580,BK591,HB⟩:=hcut
                  have hl581000_68:=(Kd.R_reads' HO_581000.out).1
                  rw [hl581000_68] at HO_581000
                  (try simp only [hl581000_68])
                  (try simp only [hl581000_68] at BK554)
                  (try simp only [hl581000_68] at BK573)
                  (try simp only [hl581000_68] at BK580)
                  (try simp only [hl581000_68] at BK591)
                  (try simp only [hl581000_68] at HO_574000)
                  (try simp only [hl581000_68] at HO_592000)
                  cases kq with
                  |zero=> exact absurd HA.out (by simp [laws_FnExactAbsorbExts.j1])
                  |succ kj68=>
                    have H:=HA.out
                    clear HA
                    simp only [laws_FnExactAbsorbExts.j1] at H
                    by_cases c94:x82_68=true
                    · subst c94
                      have H1:(none)=some r:=by rw [if_pos rfl] at H;exact H
                      clear H
                      have H:=H1
                      clear H1
                      exact absurd H (by simp)
                    · replace c94:=Bool.eq_false_iff.mpr c94
                      subst c94
                      have H1:((laws_markSource.f kj68 t584 t587 t588 t589 1).bind fun bt609=> ((laws_heldSource.f kj68 bt609.2 t587 t588 t589 1).bind fun t611=> (if t611 < 0 then (none) else (if t611=bt609.1 then ((laws_toSource.f kj68 l0_0 a0_1 a0_2 a0_3).bind fun bt612=> ((laws_toExtS.f kj68 l1).bind fun t618=> ((impl_AbsorbExts.f bt612.1 bt612.2.1 bt612.2.2.1 bt612.2.2.2 t618).bind fun bt621=> ((laws_eqSource.f kj68 bt621.1 bt621.2.1 bt621.2.2.1 bt621.2.2.2.1 t566 t569 t570 t571).bind fun t629=> (if t629=true then (laws_FnExactAbsorbExts.j2 kj68 bt609.1 (bt621.2.2.2.2 !=t572) bt609.2 t587 t588 t589) else (none)))))) else (none)))))=some r:=by rw [if_neg (show ¬ (false=true) by decide)] at H;exact H
                      clear H
                      have H:=H1
                      clear H1
                      replace H:=Option.bind_eq_some_iff.mp H
                      obtain ⟨⟨t609,t610⟩,A950,H⟩:=H
                      replace H:((laws_heldSource.f kj68 t610 t587 t588 t589 1).bind fun t611=> (if t611 < 0 then (none) else (if t611=t609 then ((laws_toSource.f kj68 l0_0 a0_1 a0_2 a0_3).bind fun bt612=> ((laws_toExtS.f kj68 l1).bind fun t618=> ((impl_AbsorbExts.f bt612.1 bt612.2.1 bt612.2.2.1 bt612.2.2.2 t618).bind fun bt621=> ((laws_eqSource.f kj68 bt621.1 bt621.2.1 bt621.2.2.1 bt621.2.2.2.1 t566 t569 t570 t571).bind fun t629=> (if t629=true then (laws_FnExactAbsorbExts.j2 kj68 t609 (bt621.2.2.2.2 !=t572) t610 t587 t588 t589) else (none)))))) else (none))))=some r:=H
                      have A95:=Aside0.mk A950
                      clear A950
                      replace H:=Option.bind_eq_some_iff.mp H
                      obtain ⟨t611,A960,H⟩:=H
                      replace H:(if t611 < 0 then (none) else (if t611=t609 then ((laws_toSource.f kj68 l0_0 a0_1 a0_2 a0_3).bind fun bt612=> ((laws_toExtS.f kj68 l1).bind fun t618=> ((impl_AbsorbExts.f bt612.1 bt612.2.1 bt612.2.2.1 bt612.2.2.2 t618).bind fun bt621=> ((laws_eqSource.f kj68 bt621.1 bt621.2.1 bt621.2.2.1 bt621.2.2.2.1 t566 t569 t570 t571).bind fun t629=> (if t629=true then (laws_FnExactAbsorbExts.j2 kj68 t609 (bt621.2.2.2.2 !=t572) t610 t587 t588 t589) else (none)))))) else (none)))=some r:=H
                      have A96:=Aside0.mk A960
                      clear A960
                      by_cases c97:t611 < 0
                      · rw [if_pos c97] at H
                        exact absurd H (by simp)
                      · rw [if_neg c97] at H
                        have c97b0:decide (t611 < 0)=false:=decide_eq_false c97
                        clear c97
                        by_cases c98:t611=t609
                        · rw [if_pos c98] at H
                          have c98b0:(t611==t609)=true:=beq_iff_eq.mpr c98
                          have c98b1:(t611 !=t609)=false:=bne_eq_false_iff_eq.mpr c98
                          clear c98
                          replace H:=Option.bind_eq_some_iff.mp H
                          obtain ⟨⟨t612,t615,t616,t617⟩,A990,H⟩:=H
                          replace H:((laws_toExtS.f kj68 l1).bind fun t618=> ((impl_AbsorbExts.f t612 t615 t616 t617 t618).bind fun bt621=> ((laws_eqSource.f kj68 bt621.1 bt621.2.1 bt621.2.2.1 bt621.2.2.2.1 t566 t569 t570 t571).bind fun t629=> (if t629=true then (laws_FnExactAbsorbExts.j2 kj68 t609 (bt621.2.2.2.2 !=t572) t610 t587 t588 t589) else (none)))))=some r:=H
                          have A99:=Aside0.mk A990
                          clear A990
                          replace H:=Option.bind_eq_some_iff.mp H
                          obtain ⟨t618,A1000,H⟩:=H
                          replace H:((impl_AbsorbExts.f t612 t615 t616 t617 t618).bind fun bt621=> ((laws_eqSource.f kj68 bt621.1 bt621.2.1 bt621.2.2.1 bt621.2.2.2.1 t566 t569 t570 t571).bind fun t629=> (if t629=true then (laws_FnExactAbsorbExts.j2 kj68 t609 (bt621.2.2.2.2 !=t572) t610 t587 t588 t589) else (none))))=some r:=H
                          have A100:=Aside0.mk A1000
                          clear A1000
                          replace H:=Option.bind_eq_some_iff.mp H
                          obtain ⟨⟨t621,t624,t625,t626,t627⟩,A1010,H⟩:=H
                          replace H:((laws_eqSource.f kj68 t621 t624 t625 t626 t566 t569 t570 t571).bind fun t629=> (if t629=true then (laws_FnExactAbsorbExts.j2 kj68 t609 (t627 !=t572) t610 t587 t588 t589) else (none)))=some r:=H
                          have A101:=Aside0.mk A1010
                          clear A1010
                          have HC102:=Aside0.mk H
                          clear H
                          have hnb103:=NB591_554.out
                          have hnc103:=NB554_591.out
                          have hnb104:=NB591_573.out
                          have hnc104:=NB573_591.out
                          have hnb105:=NB591_580.out
                          have hnc105:=NB580_591.out
                          have hcz106_0:wc.cell? ⟨gb591,0,none⟩=some (.slice Ao45 t584.length co45):=(blk_cell BK591.out 0).trans rfl
                          have hcz106_1:wc.cell? ⟨gb591,1,none⟩=some (.int .i64 t587):=(blk_cell BK591.out 1).trans rfl
                          have hcz106_2:wc.cell? ⟨gb591,2,none⟩=some (.string t588):=(blk_cell BK591.out 2).trans rfl
                          have hcz106_3:wc.cell? ⟨gb591,3,none⟩=some (.int .i64 t589):=(blk_cell BK591.out 3).trans rfl
                          have hfz106_0:=blk_frozen BK591.out 0
                          have hfz106_1:=blk_frozen BK591.out 1
                          have hfz106_2:=blk_frozen BK591.out 2
                          have hfz106_3:=blk_frozen BK591.out 3
                          go_upto_region 32 with (first|((with_reducible refine gate_callee (f:=37) rfl ?_);refine goesL_ (some 85) rfl rfl Try.func37 (by kernel_rfl) rfl #[.agg #[.slice Ao45 t584.length co45,.int .i64 t587,.string t588,.int .i64 t589],.int .i64 1] rfl (by (try simp only [List.map_toArray,List.map_cons,List.map_nil]);first|done|rfl|(simp only [List.length_drop,List.length_take];rfl)) ?_;(with_reducible refine (laws_markSource.calls kj68 (fun k_=> some k_=(.slice Ao45 t584.length co45:Value).ownBlock) (.slice Ao45 t584.length co45) t584 t587 t588 t589 1 t609 t610 w _ ?side1 ?side2 A95.out).mono ?_);(case side1=> repeat (first|(with_reducible first|exact HB.out|apply below_alloc|apply pw_below_drewN|apply below_drew1|refine below_set ?_ GE554.out|refine below_set ?_ GE573.out|refine below_set ?_ GE580.out|refine below_set ?_ GE591.out)|exact HB.out));(case side2=> exact Kd.R_tight rfl HO_592000.out);rintro e w107 ⟨rfl,hy0,hb,hkp⟩;refine ⟨_,rfl,?_⟩;have n0_:=Aside0.mk (Kd.R_mono (ok':=fun k_=> some k_ ≠ (.slice Ao36 t605.length co36:Value).ownBlock ∧ some k_ ≠ (.slice Ao45 t584.length co45:Value).ownBlock) (Kd.R_keptB (HO_574000.out) hkp (fun k_ hk_ hs_=> (hk_.2) hs_)) (fun k_ hk_=> ⟨hk_.1.1,hk_.1.2⟩));have n1_:=Aside0.mk (Kd.R_mono (ok':=fun k_=> some k_ ≠ (.slice Ao30 t566.length co30:Value).ownBlock ∧ some k_ ≠ (.slice Ao45 t584.length co45:Value).ownBlock) (Kd.R_keptB (HO_581000.out) hkp (fun k_ hk_ hs_=> (hk_.2) hs_)) (fun k_ hk_=> ⟨hk_.1.1,hk_.1.2⟩));have n2_:=Aside0.mk (Kd.R_reok rfl hy0 (fun k_ e_=> HO_592000.out.1 k_ e_));have n3_:=Aside0.mk (blk_kept (by (with_reducible repeat (first|apply bN|apply bd|apply bA));exact BK554.out) hkp (fun hs_=> (fun e_=> (Kd.R_ne HO_592000.out BK554.out (by decide)) e_) hs_));have n4_:=Aside0.mk (blk_kept (by (with_reducible repeat (first|apply bN|apply bd|apply bA));exact BK573.out) hkp (fun hs_=> (fun e_=> (Kd.R_ne HO_592000.out BK573.out (by decide)) e_) hs_));have n5_:=Aside0.mk (blk_kept (by (with_reducible repeat (first|apply bN|apply bd|apply bA));exact BK580.out) hkp (fun hs_=> (fun e_=> (Kd.R_ne HO_592000.out BK580.out (by decide)) e_) hs_));have n6_:=Aside0.mk (blk_kept (by (with_reducible repeat (first|apply bN|apply bd|apply bA));exact BK591.out) hkp (fun hs_=> (fun e_=> (Kd.R_ne HO_592000.out BK591.out (by decide)) e_) hs_));have n7_:=Aside0.mk (hb);clear HO_574000;clear HO_581000;clear HO_592000;clear BK554;clear BK573;clear BK580;clear BK591;clear HB;have HO_574000:=n0_;have HO_581000:=n1_;have HO_592000:=n2_;have BK554:=n3_;have BK573:=n4_;have BK580:=n5_;have BK591:=n6_;have HB:=n7_;clear n0_ n1_ n2_ n3_ n4_ n5_ n6_ n7_;(try clear hb);(try clear hkp);(try clear hy0);have hcz108_0:w107.cell? ⟨gb591,0,none⟩=some (.slice Ao45 t584.length co45):=(blk_cell BK591.out 0).trans rfl;have hcz108_1:w107.cell? ⟨gb591,1,none⟩=some (.int .i64 t587):=(blk_cell BK591.out 1).trans rfl;have hcz108_2:w107.cell? ⟨gb591,2,none⟩=some (.string t588):=(blk_cell BK591.out 2).trans rfl;have hcz108_3:w107.cell? ⟨gb591,3,none⟩=some (.int .i64 t589):=(blk_cell BK591.out 3).trans rfl;have hfz108_0:=blk_frozen BK591.out 0;have hfz108_1:=blk_frozen BK591.out 1;have hfz108_2:=blk_frozen BK591.out 2;have hfz108_3:=blk_frozen BK591.out 3)|((with_reducible refine gate_callee (f:=38) rfl ?_);refine goesL_ (some 88) rfl rfl Try.func38 (by kernel_rfl) rfl #[.agg #[.slice Ao45 t610.length co45,.int .i64 t587,.string t588,.int .i64 t589],.int .i64 1] rfl (by (try simp only [List.map_toArray,List.map_cons,List.map_nil]);first|done|(rw [show t610.length=t584.length from (Kd.R_reads' HO_592000.out).1.symm] <;> rfl)|rfl|(simp only [List.length_drop,List.length_take];rfl)) ?_;(with_reducible refine (laws_heldSource.calls kj68 _ _ t610 t587 t588 t589 1 t611 _ ?side1 ?side2 A96.out).mono ?_);(case side1=> repeat (first|exact (Kd.R_reads' HO_592000.out).2.2|(with_reducible refine Kd.C_alloc ?_ _)|(with_reducible refine Kd.C_drewN ?_ _)|(with_reducible refine Kd.C_drew ?_)));(case side2=> rw [show t610.length=t584.length from (Kd.R_reads' HO_592000.out).1.symm];exact (Kd.R_reads' HO_592000.out).2.1);rintro e w109 ⟨rfl,hb⟩;refine ⟨_,rfl,?_⟩;have n0_:=Aside0.mk (Kd.R_below (by (with_reducible repeat (first|apply Kd.R_alloc|apply Kd.R_drewN|apply Kd.R_drew));exact HO_574000.out) hb);have n1_:=Aside0.mk (Kd.R_below (by (with_reducible repeat (first|apply Kd.R_alloc|apply Kd.R_drewN|apply Kd.R_drew));exact HO_581000.out) hb);have n2_:=Aside0.mk (Kd.R_below (by (with_reducible repeat (first|apply Kd.R_alloc|apply Kd.R_drewN|apply Kd.R_drew));exact HO_592000.out) hb);have n3_:=Aside0.mk (blk_below (g:=gb554) (o:= .cells #[.slice A0_0 l0_0.length c0_0,.int .i64 a0_1,.string a0_2,.int .i64 a0_3] 61 (0,0)) (by (with_reducible repeat (first|apply bN|apply bd|apply bA));exact BK554.out) hb);have n4_:=Aside0.mk (blk_below (g:=gb573) (o:= .cells #[.slice Ao30 t566.length co30,.int .i64 t569,.string t570,.int .i64 t571] 36 (0,0)) (by (with_reducible repeat (first|apply bN|apply bd|apply bA));exact BK573.out) hb);have n5_:=Aside0.mk (blk_below (g:=gb580) (o:= .cells #[.slice Ao36 t605.length co36,.int .i64 t577,.string t578,.int .i64 t579] 36 (0,0)) (by (with_reducible repeat (first|apply bN|apply bd|apply bA));exact BK580.out) hb);have n6_:=Aside0.mk (blk_below (g:=gb591) (o:= .cells #[.slice Ao45 t584.length co45,.int .i64 t587,.string t588,.int .i64 t589] 36 (0,0)) (by (with_reducible repeat (first|apply bN|apply bd|apply bA));exact BK591.out) hb);have n7_:=Aside0.mk (below_step (by repeat (first|(with_reducible first|exact HB.out|apply below_alloc|apply pw_below_drewN|apply below_drew1|refine below_set ?_ GE554.out|refine below_set ?_ GE573.out|refine below_set ?_ GE580.out|refine below_set ?_ GE591.out)|exact HB.out)) hb);clear HO_574000;clear HO_581000;clear HO_592000;clear BK554;clear BK573;clear BK580;clear BK591;clear HB;have HO_574000:=n0_;have HO_581000:=n1_;have HO_592000:=n2_;have BK554:=n3_;have BK573:=n4_;have BK580:=n5_;have BK591:=n6_;have HB:=n7_;clear n0_ n1_ n2_ n3_ n4_ n5_ n6_ n7_;(try clear hb);(try clear hb2);(try clear hk);(try clear hi);have hnb110:=NB554_573.out;have hnc110:=NB573_554.out;have hnb111:=NB554_580.out;have hnc111:=NB580_554.out;have hcz112_0:w109.cell? ⟨gb554,0,none⟩=some (.slice A0_0 l0_0.length c0_0):=(blk_cell BK554.out 0).trans rfl;have hcz112_1:w109.cell? ⟨gb554,1,none⟩=some (.int .i64 a0_1):=(blk_cell BK554.out 1).trans rfl;have hcz112_2:w109.cell? ⟨gb554,2,none⟩=some (.string a0_2):=(blk_cell BK554.out 2).trans rfl;have hcz112_3:w109.cell? ⟨gb554,3,none⟩=some (.int .i64 a0_3):=(blk_cell BK554.out 3).trans rfl;have hfz112_0:=blk_frozen BK554.out 0;have hfz112_1:=blk_frozen BK554.out 1;have hfz112_2:=blk_frozen BK554.out 2;have hfz112_3:=blk_frozen BK554.out 3)|((with_reducible refine gate_callee (f:=55) rfl ?_);refine goesL_ (some 96) rfl rfl Try.func55 (by kernel_rfl) rfl #[.agg #[.slice A0_0 l0_0.length c0_0,.int .i64 a0_1,.string a0_2,.int .i64 a0_3]] rfl (by (try simp only [List.map_toArray,List.map_cons,List.map_nil]);first|done|rfl|(simp only [List.length_drop,List.length_take];rfl)) ?_;(with_reducible refine (laws_toSource.calls kj68 _ _ l0_0 a0_1 a0_2 a0_3 t612 t615 t616 t617 _ ?side1 ?side2 A99.out).mono ?_);(case side1=> repeat (first|exact (Kd.C_below HR0_0.out HB.out)|(with_reducible refine Kd.C_alloc ?_ _)|(with_reducible refine Kd.C_drewN ?_ _)|(with_reducible refine Kd.C_drew ?_)));(case side2=> exact HC0_0.out);rintro e w113 ⟨v613,rfl,ho0,hb⟩;refine ⟨_,rfl,?_⟩;have n0_:=Aside0.mk (Kd.R_elder' (by (with_reducible repeat (first|apply Kd.R_alloc|apply Kd.R_drewN|apply Kd.R_drew));exact HO_574000.out) (Kd.R_base ho0) hb);have n1_:=Aside0.mk (Kd.R_elder' (by (with_reducible repeat (first|apply Kd.R_alloc|apply Kd.R_drewN|apply Kd.R_drew));exact HO_581000.out) (Kd.R_base ho0) hb);have n2_:=Aside0.mk (Kd.R_elder' (by (with_reducible repeat (first|apply Kd.R_alloc|apply Kd.R_drewN|apply Kd.R_drew));exact HO_592000.out) (Kd.R_base ho0) hb);have n3_:=Aside0.mk (Kd.R_lower (Kd.R_new' (Kd.R_new' (Kd.R_new' ho0 (Kd.R_lt (by (with_reducible repeat (first|apply Kd.R_alloc|apply Kd.R_drewN|apply Kd.R_drew));exact HO_574000.out))) (Kd.R_lt (by (with_reducible repeat (first|apply Kd.R_alloc|apply Kd.R_drewN|apply Kd.R_drew));exact HO_581000.out))) (Kd.R_lt (by (with_reducible repeat (first|apply Kd.R_alloc|apply Kd.R_drewN|apply Kd.R_drew));exact HO_592000.out))) (below_size (by repeat (first|(with_reducible first|exact HB.out|apply below_alloc|apply pw_below_drewN|apply below_drew1|refine below_set ?_ GE554.out|refine below_set ?_ GE573.out|refine below_set ?_ GE580.out|refine below_set ?_ GE591.out)|exact HB.out))));have n4_:=Aside0.mk (blk_below (g:=gb554) (o:= .cells #[.slice A0_0 l0_0.length c0_0,.int .i64 a0_1,.string a0_2,.int .i64 a0_3] 61 (0,0)) (by (with_reducible repeat (first|apply bN|apply bd|apply bA));exact BK554.out) hb);have n5_:=Aside0.mk (blk_below (g:=gb573) (o:= .cells #[.slice Ao30 t566.length co30,.int .i64 t569,.string t570,.int .i64 t571] 36 (0,0)) (by (with_reducible repeat (first|apply bN|apply bd|apply bA));exact BK573.out) hb);have n6_:=Aside0.mk (blk_below (g:=gb580) (o:= .cells #[.slice Ao36 t605.length co36,.int .i64 t577,.string t578,.int .i64 t579] 36 (0,0)) (by (with_reducible repeat (first|apply bN|apply bd|apply bA));exact BK580.out) hb);have n7_:=Aside0.mk (blk_below (g:=gb591) (o:= .cells #[.slice Ao45 t584.length co45,.int .i64 t587,.string t588,.int .i64 t589] 36 (0,0)) (by (with_reducible repeat (first|apply bN|apply bd|apply bA));exact BK591.out) hb);have n8_:=Aside0.mk (below_step (by repeat (first|(with_reducible first|exact HB.out|apply below_alloc|apply pw_below_drewN|apply below_drew1|refine below_set ?_ GE554.out|refine below_set ?_ GE573.out|refine below_set ?_ GE580.out|refine below_set ?_ GE591.out)|exact HB.out)) hb);clear HO_574000;clear HO_581000;clear HO_592000;clear BK554;clear BK573;clear BK580;clear BK591;clear HB;have HO_574000:=n0_;have HO_581000:=n1_;have HO_592000:=n2_;have HO614:=n3_;have BK554:=n4_;have BK573:=n5_;have BK580:=n6_;have BK591:=n7_;have HB:=n8_;clear n0_ n1_ n2_ n3_ n4_ n5_ n6_ n7_ n8_;(try clear hb);(try clear hb2);(try clear hk);(try clear hi);(try clear ho0))|((with_reducible refine gate_callee (f:=61) rfl ?_);refine goesL_ (some 98) rfl rfl Try.func61 (by kernel_rfl) rfl #[.slice A1 l1.length c1] rfl (by (try simp only [List.map_toArray,List.map_cons,List.map_nil]);first|done|rfl|(simp only [List.length_drop,List.length_take];rfl)) ?_;(with_reducible refine (laws_toExtS.calls kj68 _ _ l1 t618 _ ?side1 ?side2 A100.out).mono ?_);(case side1=> repeat (first|exact (Kd.C_below HR1.out HB.out)|(with_reducible refine Kd.C_alloc ?_ _)|(with_reducible refine Kd.C_drewN ?_ _)|(with_reducible refine Kd.C_drew ?_)));(case side2=> exact HC1.out);rintro e w114 ⟨v619,rfl,ho0,hb⟩;refine ⟨_,rfl,?_⟩;have n0_:=Aside0.mk (Kd.R_elder' (by (with_reducible repeat (first|apply Kd.R_alloc|apply Kd.R_drewN|apply Kd.R_drew));exact HO_574000.out) (Kd.R_base ho0) hb);have n1_:=Aside0.mk (Kd.R_elder' (by (with_reducible repeat (first|apply Kd.R_alloc|apply Kd.R_drewN|apply Kd.R_drew));exact HO_581000.out) (Kd.R_base ho0) hb);have n2_:=Aside0.mk (Kd.R_elder' (by (with_reducible repeat (first|apply Kd.R_alloc|apply Kd.R_drewN|apply Kd.R_drew));exact HO_592000.out) (Kd.R_base ho0) hb);have n3_:=Aside0.mk (Kd.R_elder' (by (with_reducible repeat (first|apply Kd.R_alloc|apply Kd.R_drewN|apply Kd.R_drew));exact HO614.out) (Kd.R_base ho0) hb);have n4_:=Aside0.mk (Kd.R_lower (Kd.R_new' (Kd.R_new' (Kd.R_new' (Kd.R_new' ho0 (Kd.R_lt (by (with_reducible repeat (first|apply Kd.R_alloc|apply Kd.R_drewN|apply Kd.R_drew));exact HO_574000.out))) (Kd.R_lt (by (with_reducible repeat (first|apply Kd.R_alloc|apply Kd.R_drewN|apply Kd.R_drew));exact HO_581000.out))) (Kd.R_lt (by (with_reducible repeat (first|apply Kd.R_alloc|apply Kd.R_drewN|apply Kd.R_drew));exact HO_592000.out))) (Kd.R_lt (by (with_reducible repeat (first|apply Kd.R_alloc|apply Kd.R_drewN|apply Kd.R_drew));exact HO614.out))) (below_size (by repeat (first|(with_reducible first|exact HB.out|apply below_alloc|apply pw_below_drewN|apply below_drew1|refine below_set ?_ GE554.out|refine below_set ?_ GE573.out|refine below_set ?_ GE580.out|refine below_set ?_ GE591.out)|exact HB.out))));have n5_:=Aside0.mk (blk_below (g:=gb554) (o:= .cells #[.slice A0_0 l0_0.length c0_0,.int .i64 a0_1,.string a0_2,.int .i64 a0_3] 61 (0,0)) (by (with_reducible repeat (first|apply bN|apply bd|apply bA));exact BK554.out) hb);have n6_:=Aside0.mk (blk_below (g:=gb573) (o:= .cells #[.slice Ao30 t566.length co30,.int .i64 t569,.string t570,.int .i64 t571] 36 (0,0)) (by (with_reducible repeat (first|apply bN|apply bd|apply bA));exact BK573.out) hb);have n7_:=Aside0.mk (blk_below (g:=gb580) (o:= .cells #[.slice Ao36 t605.length co36,.int .i64 t577,.string t578,.int .i64 t579] 36 (0,0)) (by (with_reducible repeat (first|apply bN|apply bd|apply bA));exact BK580.out) hb);have n8_:=Aside0.mk (blk_below (g:=gb591) (o:= .cells #[.slice Ao45 t584.length co45,.int .i64 t587,.string t588,.int .i64 t589] 36 (0,0)) (by (with_reducible repeat (first|apply bN|apply bd|apply bA));exact BK591.out) hb);have n9_:=Aside0.mk (below_step (by repeat (first|(with_reducible first|exact HB.out|apply below_alloc|apply pw_below_drewN|apply below_drew1|refine below_set ?_ GE554.out|refine below_set ?_ GE573.out|refine below_set ?_ GE580.out|refine below_set ?_ GE591.out)|exact HB.out)) hb);clear HO_574000;clear HO_581000;clear HO_592000;clear HO614;clear BK554;clear BK573;clear BK580;clear BK591;clear HB;have HO_574000:=n0_;have HO_581000:=n1_;have HO_592000:=n2_;have HO614:=n3_;have HO620:=n4_;have BK554:=n5_;have BK573:=n6_;have BK580:=n7_;have BK591:=n8_;have HB:=n9_;clear n0_ n1_ n2_ n3_ n4_ n5_ n6_ n7_ n8_ n9_;(try clear hb);(try clear hb2);(try clear hk);(try clear hi);(try clear ho0);obtain ⟨Ao115,co115,eo115⟩:=Kd.R_slice HO614.out;subst eo115;obtain ⟨Ao116,co116,eo116⟩:=Kd.R_slice HO620.out;subst eo116)|((with_reducible refine gate_callee (f:=68) rfl ?_);refine goesL_ (some 99) rfl rfl Try.func68 (by kernel_rfl) rfl #[.agg #[.slice Ao115 t612.length co115,.int .i64 t615,.string t616,.int .i64 t617],.slice Ao116 t618.length co116] rfl (by (try simp only [List.map_toArray,List.map_cons,List.map_nil]);first|done|rfl|(simp only [List.length_drop,List.length_take];rfl)) ?_;(with_reducible refine (impl_AbsorbExts.calls _ _ t612 t615 t616 t617 _ _ t618 t621 t624 t625 t626 t627 _ ?side1 ?side2 ?side3 ?side4 A101.out).mono ?_);(case side1=> repeat (first|exact (Kd.R_reads' HO614.out).2.2|(with_reducible refine Kd.C_alloc ?_ _)|(with_reducible refine Kd.C_drewN ?_ _)|(with_reducible refine Kd.C_drew ?_)));(case side2=> exact (Kd.R_reads' HO614.out).2.1);(case side3=> repeat (first|exact (Kd.R_reads' HO620.out).2.2|(with_reducible refine Kd.C_alloc ?_ _)|(with_reducible refine Kd.C_drewN ?_ _)|(with_reducible refine Kd.C_drew ?_)));(case side4=> exact (Kd.R_reads' HO620.out).2.1);rintro e w117 ⟨v622,rfl,ho0,hb⟩;refine ⟨_,rfl,?_⟩;have n0_:=Aside0.mk (Kd.R_elder' (by (with_reducible repeat (first|apply Kd.R_alloc|apply Kd.R_drewN|apply Kd.R_drew));exact HO_574000.out) (Kd.R_base ho0) hb);have n1_:=Aside0.mk (Kd.R_elder' (by (with_reducible repeat (first|apply Kd.R_alloc|apply Kd.R_drewN|apply Kd.R_drew));exact HO_581000.out) (Kd.R_base ho0) hb);have n2_:=Aside0.mk (Kd.R_elder' (by (with_reducible repeat (first|apply Kd.R_alloc|apply Kd.R_drewN|apply Kd.R_drew));exact HO_592000.out) (Kd.R_base ho0) hb);have n3_:=Aside0.mk (Kd.R_elder' (by (with_reducible repeat (first|apply Kd.R_alloc|apply Kd.R_drewN|apply Kd.R_drew));exact HO614.out) (Kd.R_base ho0) hb);have n4_:=Aside0.mk (Kd.R_elder' (by (with_reducible repeat (first|apply Kd.R_alloc|apply Kd.R_drewN|apply Kd.R_drew));exact HO620.out) (Kd.R_base ho0) hb);have n5_:=Aside0.mk (Kd.R_lower (Kd.R_new' (Kd.R_new' (Kd.R_new' (Kd.R_new' (Kd.R_new' ho0 (Kd.R_lt (by (with_reducible repeat (first|apply Kd.R_alloc|apply Kd.R_drewN|apply Kd.R_drew));exact HO_574000.out))) (Kd.R_lt (by (with_reducible repeat (first|apply Kd.R_alloc|apply Kd.R_drewN|apply Kd.R_drew));exact HO_581000.out))) (Kd.R_lt (by (with_reducible repeat (first|apply Kd.R_alloc|apply Kd.R_drewN|apply Kd.R_drew));exact HO_592000.out))) (Kd.R_lt (by (with_reducible repeat (first|apply Kd.R_alloc|apply Kd.R_drewN|apply Kd.R_drew));exact HO614.out))) (Kd.R_lt (by (with_reducible repeat (first|apply Kd.R_alloc|apply Kd.R_drewN|apply Kd.R_drew));exact HO620.out))) (below_size (by repeat (first|(with_reducible first|exact HB.out|apply below_alloc|apply pw_below_drewN|apply below_drew1|refine below_set ?_ GE554.out|refine below_set ?_ GE573.out|refine below_set ?_ GE580.out|refine below_set ?_ GE591.out)|exact HB.out))));have n6_:=Aside0.mk (blk_below (g:=gb554) (o:= .cells #[.slice A0_0 l0_0.length c0_0,.int .i64 a0_1,.string a0_2,.int .i64 a0_3] 61 (0,0)) (by (with_reducible repeat (first|apply bN|apply bd|apply bA));exact BK554.out) hb);have n7_:=Aside0.mk (blk_below (g:=gb573) (o:= .cells #[.slice Ao30 t566.length co30,.int .i64 t569,.string t570,.int .i64 t571] 36 (0,0)) (by (with_reducible repeat (first|apply bN|apply bd|apply bA));exact BK573.out) hb);have n8_:=Aside0.mk (blk_below (g:=gb580) (o:= .cells #[.slice Ao36 t605.length co36,.int .i64 t577,.string t578,.int .i64 t579] 36 (0,0)) (by (with_reducible repeat (first|apply bN|apply bd|apply bA));exact BK580.out) hb);have n9_:=Aside0.mk (blk_below (g:=gb591) (o:= .cells #[.slice Ao45 t584.length co45,.int .i64 t587,.string t588,.int .i64 t589] 36 (0,0)) (by (with_reducible repeat (first|apply bN|apply bd|apply bA));exact BK591.out) hb);have n10_:=Aside0.mk (below_step (by repeat (first|(with_reducible first|exact HB.out|apply below_alloc|apply pw_below_drewN|apply below_drew1|refine below_set ?_ GE554.out|refine below_set ?_ GE573.out|refine below_set ?_ GE580.out|refine below_set ?_ GE591.out)|exact HB.out)) hb);clear HO_574000;clear HO_581000;clear HO_592000;clear HO614;clear HO620;clear BK554;clear BK573;clear BK580;clear BK591;clear HB;have HO_574000:=n0_;have HO_581000:=n1_;have HO_592000:=n2_;have HO614:=n3_;have HO620:=n4_;have HO623:=n5_;have BK554:=n6_;have BK573:=n7_;have BK580:=n8_;have BK591:=n9_;have HB:=n10_;clear n0_ n1_ n2_ n3_ n4_ n5_ n6_ n7_ n8_ n9_ n10_;(try clear hb);(try clear hb2);(try clear hk);(try clear hi);(try clear ho0))|((with_reducible refine gate_dst (N:=15) rfl ?_);refine box_event ?hg (N:=15) ?hd (cs:= #[.slice none 0 0,.int .i64 0,.string (⟨#[]⟩:ByteArray),.int .i64 0]) (t:=36) ?hr ?_;(case hd=> rfl);(case hg=> rfl);(case hr=> first|(go_simp;done)|(go_simp;rfl));intro gb628 hg w118 hbox hb;have n0_:=Aside0.mk (Kd.R_below (by (with_reducible repeat (first|apply Kd.R_alloc|apply Kd.R_drewN|apply Kd.R_drew));exact HO_574000.out) hb);have n1_:=Aside0.mk (Kd.R_below (by (with_reducible repeat (first|apply Kd.R_alloc|apply Kd.R_drewN|apply Kd.R_drew));exact HO_581000.out) hb);have n2_:=Aside0.mk (Kd.R_below (by (with_reducible repeat (first|apply Kd.R_alloc|apply Kd.R_drewN|apply Kd.R_drew));exact HO_592000.out) hb);have n3_:=Aside0.mk (Kd.R_below (by (with_reducible repeat (first|apply Kd.R_alloc|apply Kd.R_drewN|apply Kd.R_drew));exact HO614.out) hb);have n4_:=Aside0.mk (Kd.R_below (by (with_reducible repeat (first|apply Kd.R_alloc|apply Kd.R_drewN|apply Kd.R_drew));exact HO620.out) hb);have n5_:=Aside0.mk (Kd.R_below (by (with_reducible repeat (first|apply Kd.R_alloc|apply Kd.R_drewN|apply Kd.R_drew));exact HO623.out) hb);have n6_:=Aside0.mk (blk_below (g:=gb554) (o:= .cells #[.slice A0_0 l0_0.length c0_0,.int .i64 a0_1,.string a0_2,.int .i64 a0_3] 61 (0,0)) (by (with_reducible repeat (first|apply bN|apply bd|apply bA));exact BK554.out) hb);have n7_:=Aside0.mk (blk_below (g:=gb573) (o:= .cells #[.slice Ao30 t566.length co30,.int .i64 t569,.string t570,.int .i64 t571] 36 (0,0)) (by (with_reducible repeat (first|apply bN|apply bd|apply bA));exact BK573.out) hb);have n8_:=Aside0.mk (blk_below (g:=gb580) (o:= .cells #[.slice Ao36 t605.length co36,.int .i64 t577,.string t578,.int .i64 t579] 36 (0,0)) (by (with_reducible repeat (first|apply bN|apply bd|apply bA));exact BK580.out) hb);have n9_:=Aside0.mk (blk_below (g:=gb591) (o:= .cells #[.slice Ao45 t584.length co45,.int .i64 t587,.string t588,.int .i64 t589] 36 (0,0)) (by (with_reducible repeat (first|apply bN|apply bd|apply bA));exact BK591.out) hb);have n10_:=Aside0.mk (below_step (by repeat (first|(with_reducible first|exact HB.out|apply below_alloc|apply pw_below_drewN|apply below_drew1|refine below_set ?_ GE554.out|refine below_set ?_ GE573.out|refine below_set ?_ GE580.out|refine below_set ?_ GE591.out)|exact HB.out)) hb);have n11_:=Aside0.mk (hbox);have n12_:=Aside0.mk ((by rw [hg];exact (below_size (by repeat (first|(with_reducible first|exact HB.out|apply below_alloc|apply pw_below_drewN|apply below_drew1|refine below_set ?_ GE554.out|refine below_set ?_ GE573.out|refine below_set ?_ GE580.out|refine below_set ?_ GE591.out)|exact HB.out))):w.heap.size ≤ gb628));have n13_:=Aside0.mk ((by rw [hg];exact (below_size (by repeat (first|(with_reducible first|exact HB.out|apply below_alloc|apply pw_below_drewN|apply below_drew1|refine below_set ?_ GE554.out|refine below_set ?_ GE573.out|refine below_set ?_ GE580.out|refine below_set ?_ GE591.out)|exact HB.out))):w.heap.size ≤ gb628));have n14_:=Aside0.mk ((by rw [hg];exact Nat.ne_of_lt (blk_lt (g:=gb554) (o:= .cells #[.slice A0_0 l0_0.length c0_0,.int .i64 a0_1,.string a0_2,.int .i64 a0_3] 61 (0,0)) (by (with_reducible repeat (first|apply bN|apply bd|apply bA));exact BK554.out)):gb554 ≠ gb628));have n15_:=Aside0.mk ((by rw [hg];exact Nat.ne_of_gt (blk_lt (g:=gb554) (o:= .cells #[.slice A0_0 l0_0.length c0_0,.int .i64 a0_1,.string a0_2,.int .i64 a0_3] 61 (0,0)) (by (with_reducible repeat (first|apply bN|apply bd|apply bA));exact BK554.out)):gb628 ≠ gb554));have n16_:=Aside0.mk ((by rw [hg];exact Nat.ne_of_lt (blk_lt (g:=gb573) (o:= .cells #[.slice Ao30 t566.length co30,.int .i64 t569,.string t570,.int .i64 t571] 36 (0,0)) (by (with_reducible repeat (first|apply bN|apply bd|apply bA));exact BK573.out)):gb573 ≠ gb628));have n17_:=Aside0.mk ((by rw [hg];exact Nat.ne_of_gt (blk_lt (g:=gb573) (o:= .cells #[.slice Ao30 t566.length co30,.int .i64 t569,.string t570,.int .i64 t571] 36 (0,0)) (by (with_reducible repeat (first|apply bN|apply bd|apply bA));exact BK573.out)):gb628 ≠ gb573));have n18_:=Aside0.mk ((by rw [hg];exact Nat.ne_of_lt (blk_lt (g:=gb580) (o:= .cells #[.slice Ao36 t605.length co36,.int .i64 t577,.string t578,.int .i64 t579] 36 (0,0)) (by (with_reducible repeat (first|apply bN|apply bd|apply bA));exact BK580.out)):gb580 ≠ gb628));have n19_:=Aside0.mk ((by rw [hg];exact Nat.ne_of_gt (blk_lt (g:=gb580) (o:= .cells #[.slice Ao36 t605.length co36,.int .i64 t577,.string t578,.int .i64 t579] 36 (0,0)) (by (with_reducible repeat (first|apply bN|apply bd|apply bA));exact BK580.out)):gb628 ≠ gb580));have n20_:=Aside0.mk ((by rw [hg];exact Nat.ne_of_lt (blk_lt (g:=gb591) (o:= .cells #[.slice Ao45 t584.length co45,.int .i64 t587,.string t588,.int .i64 t589] 36 (0,0)) (by (with_reducible repeat (first|apply bN|apply bd|apply bA));exact BK591.out)):gb591 ≠ gb628));have n21_:=Aside0.mk ((by rw [hg];exact Nat.ne_of_gt (blk_lt (g:=gb591) (o:= .cells #[.slice Ao45 t584.length co45,.int .i64 t587,.string t588,.int .i64 t589] 36 (0,0)) (by (with_reducible repeat (first|apply bN|apply bd|apply bA));exact BK591.out)):gb628 ≠ gb591));clear HO_574000;clear HO_581000;clear HO_592000;clear HO614;clear HO620;clear HO623;clear BK554;clear BK573;clear BK580;clear BK591;clear HB;have HO_574000:=n0_;have HO_581000:=n1_;have HO_592000:=n2_;have HO614:=n3_;have HO620:=n4_;have HO623:=n5_;have BK554:=n6_;have BK573:=n7_;have BK580:=n8_;have BK591:=n9_;have HB:=n10_;have BK628:=n11_;have GW628:=n12_;have GE628:=n13_;have NB554_628:=n14_;have NB628_554:=n15_;have NB573_628:=n16_;have NB628_573:=n17_;have NB580_628:=n18_;have NB628_580:=n19_;have NB591_628:=n20_;have NB628_591:=n21_;clear n0_ n1_ n2_ n3_ n4_ n5_ n6_ n7_ n8_ n9_ n10_ n11_ n12_ n13_ n14_ n15_ n16_ n17_ n18_ n19_ n20_ n21_;clear hb hbox hg;obtain ⟨Ao119,co119,eo119⟩:=Kd.R_slice HO623.out;subst eo119;have hnb120:=NB628_554.out;have hnc120:=NB554_628.out;have hnb121:=NB628_573.out;have hnc121:=NB573_628.out;have hnb122:=NB628_580.out;have hnc122:=NB580_628.out;have hnb123:=NB628_591.out;have hnc123:=NB591_628.out;have hcz124_0:w118.cell? ⟨gb628,0,none⟩=some (.slice none 0 0):=(blk_cell BK628.out 0).trans rfl;have hcz124_1:w118.cell? ⟨gb628,1,none⟩=some (.int .i64 0):=(blk_cell BK628.out 1).trans rfl;have hcz124_2:w118.cell? ⟨gb628,2,none⟩=some (.string (⟨#[]⟩:ByteArray)):=(blk_cell BK628.out 2).trans rfl;have hcz124_3:w118.cell? ⟨gb628,3,none⟩=some (.int .i64 0):=(blk_cell BK628.out 3).trans rfl;have hfz124_0:=blk_frozen BK628.out 0;have hfz124_1:=blk_frozen BK628.out 1;have hfz124_2:=blk_frozen BK628.out 2;have hfz124_3:=blk_frozen BK628.out 3))
                          (try simp only [Act.put,List.setIfInBounds_toArray,List.set_cons_zero,List.set_cons_succ])
                          go_cut [110] (fun v110 wc=> ∃ (kq:Nat) (x110_101:Bool),v110= .bool x110_101 ∧ Aside0 (laws_FnExactAbsorbExts.j2 kq t609 x110_101 t610 t587 t588 t589=some r) ∧ Aside0 (kq ≤ kj68) ∧ Aside0 (Kd.R k79 79 wc w.heap.size (fun k_=> some k_ ≠ ((.slice Ao36 t605.length co36):Value).ownBlock ∧ some k_ ≠ ((.slice Ao45 t584.length co45):Value).ownBlock ∧ some k_ ≠ ((.slice Ao119 t621.length co119):Value).ownBlock) (.slice Ao30 t566.length co30) t566) ∧ Aside0 (Kd.R k79 79 wc w.heap.size (fun k_=> some k_ ≠ ((.slice Ao30 t566.length co30):Value).ownBlock ∧ some k_ ≠ ((.slice Ao45 t584.length co45):Value).ownBlock ∧ some k_ ≠ ((.slice Ao119 t621.length co119):Value).ownBlock) (.slice Ao36 t605.length co36) t605) ∧ Aside0 (Kd.R k79 79 wc w.heap.size (fun k_=> some k_ ≠ ((.slice Ao30 t566.length co30):Value).ownBlock ∧ some k_ ≠ ((.slice Ao36 t605.length co36):Value).ownBlock ∧ some k_ ≠ ((.slice Ao119 t621.length co119):Value).ownBlock) (.slice Ao45 t584.length co45) t610) ∧ Aside0 (Kd.R k79 79 wc w.heap.size (fun k_=> some k_ ≠ ((.slice Ao30 t566.length co30):Value).ownBlock ∧ some k_ ≠ ((.slice Ao36 t605.length co36):Value).ownBlock ∧ some k_ ≠ ((.slice Ao45 t584.length co45):Value).ownBlock) (.slice Ao119 t621.length co119) t621) ∧ Aside0 (wc.heap[gb554]?=some (.cells #[(.slice A0_0 l0_0.length c0_0),.int .i64 a0_1,.string a0_2,.int .i64 a0_3] 61 (0,0))) ∧ Aside0 (wc.heap[gb573]?=some (.cells #[(.slice Ao30 t566.length co30),.int .i64 t569,.string t570,.int .i64 t571] 36 (0,0))) ∧ Aside0 (wc.heap[gb580]?=some (.cells #[(.slice Ao36 t605.length co36),.int .i64 t577,.string t578,.int .i64 t579] 36 (0,0))) ∧ Aside0 (wc.heap[gb591]?=some (.cells #[(.slice Ao45 t584.length co45),.int .i64 t587,.string t588,.int .i64 t589] 36 (0,0))) ∧ Aside0 (wc.heap[gb628]?=some (.cells #[(.slice Ao119 t621.length co119),.int .i64 t624,.string t625,.int .i64 t626] 36 (0,0))) ∧ Aside0 (Below w.heap.size w wc))
                          case first=>
                            have H:=HC102.out
                            clear HC102
                            replace H:=Option.bind_eq_some_iff.mp H
                            obtain ⟨t629,A1250,H⟩:=H
                            replace H:(if t629=true then (laws_FnExactAbsorbExts.j2 kj68 t609 (t627 !=t572) t610 t587 t588 t589) else (none))=some r:=H
                            have A125:=Aside0.mk A1250
                            clear A1250
                            by_cases c126:t629=true
                            · subst c126
                              have H1:(laws_FnExactAbsorbExts.j2 kj68 t609 (t627 !=t572) t610 t587 t588 t589)=some r:=by rw [if_pos rfl] at H;exact H
                              clear H
                              have H:=H1
                              clear H1
                              have H':=Aside0.mk H
                              clear H
                              have hnb127:=NB628_554.out
                              have hnc127:=NB554_628.out
                              have hnb128:=NB628_573.out
                              have hnc128:=NB573_628.out
                              have hnb129:=NB628_580.out
                              have hnc129:=NB580_628.out
                              have hnb130:=NB628_591.out
                              have hnc130:=NB591_628.out
                              have hcz131_0:w118.cell? ⟨gb628,0,none⟩=some (.slice none 0 0):=(blk_cell BK628.out 0).trans rfl
                              have hcz131_1:w118.cell? ⟨gb628,1,none⟩=some (.int .i64 0):=(blk_cell BK628.out 1).trans rfl
                              have hcz131_2:w118.cell? ⟨gb628,2,none⟩=some (.string (⟨#[]⟩:ByteArray)):=(blk_cell BK628.out 2).trans rfl
                              have hcz131_3:w118.cell? ⟨gb628,3,none⟩=some (.int .i64 0):=(blk_cell BK628.out 3).trans rfl
                              have hfz131_0:=blk_frozen BK628.out 0
                              have hfz131_1:=blk_frozen BK628.out 1
                              have hfz131_2:=blk_frozen BK628.out 2
                              have hfz131_3:=blk_frozen BK628.out 3
                              have hnb132:=NB573_554.out
                              have hnc132:=NB554_573.out
                              have hnb133:=NB573_580.out
                              have hnc133:=NB580_573.out
                              have hnb134:=NB573_591.out
                              have hnc134:=NB591_573.out
                              have hcz135_0:w118.cell? ⟨gb573,0,none⟩=some (.slice Ao30 t566.length co30):=(blk_cell BK573.out 0).trans rfl
                              have hcz135_1:w118.cell? ⟨gb573,1,none⟩=some (.int .i64 t569):=(blk_cell BK573.out 1).trans rfl
                              have hcz135_2:w118.cell? ⟨gb573,2,none⟩=some (.string t570):=(blk_cell BK573.out 2).trans rfl
                              have hcz135_3:w118.cell? ⟨gb573,3,none⟩=some (.int .i64 t571):=(blk_cell BK573.out 3).trans rfl
                              have hfz135_0:=blk_frozen BK573.out 0
                              have hfz135_1:=blk_frozen BK573.out 1
                              have hfz135_2:=blk_frozen BK573.out 2
                              have hfz135_3:=blk_frozen BK573.out 3
                              go_wp2_with (first|((with_reducible refine gate_callee (f:=36) rfl ?_);refine goesL_ (some 104) rfl rfl Try.func36 (by kernel_rfl) rfl #[.agg #[.slice Ao119 t621.length co119,.int .i64 t624,.string t625,.int .i64 t626],.agg #[.slice Ao30 t566.length co30,.int .i64 t569,.string t570,.int .i64 t571]] rfl (by (try simp only [List.map_toArray,List.map_cons,List.map_nil]);first|done|rfl|(simp only [List.length_drop,List.length_take];rfl)) ?_;(with_reducible refine (laws_eqSource.calls kj68 _ _ t621 t624 t625 t626 _ _ t566 t569 t570 t571 true _ ?side1 ?side2 ?side3 ?side4 A125.out).mono ?_);(case side1=> refine (Kd.R_reads' (e:=79) (base:=w.heap.size) (ok:=fun k_=> (((((True ∧ some k_ ≠ (.slice Ao30 t566.length co30:Value).ownBlock) ∧ some k_ ≠ (.slice Ao36 t605.length co36:Value).ownBlock) ∧ some k_ ≠ (.slice Ao45 t584.length co45:Value).ownBlock) ∧ some k_ ≠ (.slice Ao115 t612.length co115:Value).ownBlock) ∧ some k_ ≠ (.slice Ao116 t618.length co116:Value).ownBlock)) (n:=t621.length) (c:=co119) ?_).2.2;exact (by (with_reducible repeat (first|apply Kd.R_alloc|apply Kd.R_drewN|apply Kd.R_drew));exact (Kd.R_mono (Kd.R_far (p:=⟨gb628,3,none⟩) (Kd.R_far (p:=⟨gb628,2,none⟩) (Kd.R_far (p:=⟨gb628,1,none⟩) (Kd.R_far (p:=⟨gb628,0,none⟩) (Kd.R_types HO623.out BK628.out (by decide)) (fun _ hk=> hk.2) (.slice Ao119 t621.length co119)) (fun _ hk=> hk.2) (.int .i64 t624)) (fun _ hk=> hk.2) (.string t625)) (fun _ hk=> hk.2) (.int .i64 t626)) (fun _ h_=> h_.1))));(case side2=> exact (Kd.R_reads' HO623.out).2.1);(case side3=> refine (Kd.R_reads' (e:=79) (base:=w.heap.size) (ok:=fun k_=> ((((some k_ ≠ (.slice Ao36 t605.length co36:Value).ownBlock ∧ some k_ ≠ (.slice Ao45 t584.length co45:Value).ownBlock) ∧ some k_ ≠ (.slice Ao115 t612.length co115:Value).ownBlock) ∧ some k_ ≠ (.slice Ao116 t618.length co116:Value).ownBlock) ∧ some k_ ≠ (.slice Ao119 t621.length co119:Value).ownBlock)) (n:=t566.length) (c:=co30) ?_).2.2;exact (by (with_reducible repeat (first|apply Kd.R_alloc|apply Kd.R_drewN|apply Kd.R_drew));exact (Kd.R_mono (Kd.R_far (p:=⟨gb628,3,none⟩) (Kd.R_far (p:=⟨gb628,2,none⟩) (Kd.R_far (p:=⟨gb628,1,none⟩) (Kd.R_far (p:=⟨gb628,0,none⟩) (Kd.R_types HO_574000.out BK628.out (by decide)) (fun _ hk=> hk.2) (.slice Ao119 t621.length co119)) (fun _ hk=> hk.2) (.int .i64 t624)) (fun _ hk=> hk.2) (.string t625)) (fun _ hk=> hk.2) (.int .i64 t626)) (fun _ h_=> h_.1))));(case side4=> exact (Kd.R_reads' HO_574000.out).2.1);rintro e w136 ⟨rfl,hb⟩;refine ⟨_,rfl,?_⟩;have n0_:=Aside0.mk (Kd.R_below (by (with_reducible repeat (first|apply Kd.R_alloc|apply Kd.R_drewN|apply Kd.R_drew));exact (Kd.R_mono (Kd.R_far (p:=⟨gb628,3,none⟩) (Kd.R_far (p:=⟨gb628,2,none⟩) (Kd.R_far (p:=⟨gb628,1,none⟩) (Kd.R_far (p:=⟨gb628,0,none⟩) (Kd.R_types HO_574000.out BK628.out (by decide)) (fun _ hk=> hk.2) (.slice Ao119 t621.length co119)) (fun _ hk=> hk.2) (.int .i64 t624)) (fun _ hk=> hk.2) (.string t625)) (fun _ hk=> hk.2) (.int .i64 t626)) (fun _ h_=> h_.1))) hb);have n1_:=Aside0.mk (Kd.R_below (by (with_reducible repeat (first|apply Kd.R_alloc|apply Kd.R_drewN|apply Kd.R_drew));exact (Kd.R_mono (Kd.R_far (p:=⟨gb628,3,none⟩) (Kd.R_far (p:=⟨gb628,2,none⟩) (Kd.R_far (p:=⟨gb628,1,none⟩) (Kd.R_far (p:=⟨gb628,0,none⟩) (Kd.R_types HO_581000.out BK628.out (by decide)) (fun _ hk=> hk.2) (.slice Ao119 t621.length co119)) (fun _ hk=> hk.2) (.int .i64 t624)) (fun _ hk=> hk.2) (.string t625)) (fun _ hk=> hk.2) (.int .i64 t626)) (fun _ h_=> h_.1))) hb);have n2_:=Aside0.mk (Kd.R_below (by (with_reducible repeat (first|apply Kd.R_alloc|apply Kd.R_drewN|apply Kd.R_drew));exact (Kd.R_mono (Kd.R_far (p:=⟨gb628,3,none⟩) (Kd.R_far (p:=⟨gb628,2,none⟩) (Kd.R_far (p:=⟨gb628,1,none⟩) (Kd.R_far (p:=⟨gb628,0,none⟩) (Kd.R_types HO_592000.out BK628.out (by decide)) (fun _ hk=> hk.2) (.slice Ao119 t621.length co119)) (fun _ hk=> hk.2) (.int .i64 t624)) (fun _ hk=> hk.2) (.string t625)) (fun _ hk=> hk.2) (.int .i64 t626)) (fun _ h_=> h_.1))) hb);have n3_:=Aside0.mk (Kd.R_below (by (with_reducible repeat (first|apply Kd.R_alloc|apply Kd.R_drewN|apply Kd.R_drew));exact (Kd.R_mono (Kd.R_far (p:=⟨gb628,3,none⟩) (Kd.R_far (p:=⟨gb628,2,none⟩) (Kd.R_far (p:=⟨gb628,1,none⟩) (Kd.R_far (p:=⟨gb628,0,none⟩) (Kd.R_types HO614.out BK628.out (by decide)) (fun _ hk=> hk.2) (.slice Ao119 t621.length co119)) (fun _ hk=> hk.2) (.int .i64 t624)) (fun _ hk=> hk.2) (.string t625)) (fun _ hk=> hk.2) (.int .i64 t626)) (fun _ h_=> h_.1))) hb);have n4_:=Aside0.mk (Kd.R_below (by (with_reducible repeat (first|apply Kd.R_alloc|apply Kd.R_drewN|apply Kd.R_drew));exact (Kd.R_mono (Kd.R_far (p:=⟨gb628,3,none⟩) (Kd.R_far (p:=⟨gb628,2,none⟩) (Kd.R_far (p:=⟨gb628,1,none⟩) (Kd.R_far (p:=⟨gb628,0,none⟩) (Kd.R_types HO620.out BK628.out (by decide)) (fun _ hk=> hk.2) (.slice Ao119 t621.length co119)) (fun _ hk=> hk.2) (.int .i64 t624)) (fun _ hk=> hk.2) (.string t625)) (fun _ hk=> hk.2) (.int .i64 t626)) (fun _ h_=> h_.1))) hb);have n5_:=Aside0.mk (Kd.R_below (by (with_reducible repeat (first|apply Kd.R_alloc|apply Kd.R_drewN|apply Kd.R_drew));exact (Kd.R_mono (Kd.R_far (p:=⟨gb628,3,none⟩) (Kd.R_far (p:=⟨gb628,2,none⟩) (Kd.R_far (p:=⟨gb628,1,none⟩) (Kd.R_far (p:=⟨gb628,0,none⟩) (Kd.R_types HO623.out BK628.out (by decide)) (fun _ hk=> hk.2) (.slice Ao119 t621.length co119)) (fun _ hk=> hk.2) (.int .i64 t624)) (fun _ hk=> hk.2) (.string t625)) (fun _ hk=> hk.2) (.int .i64 t626)) (fun _ h_=> h_.1))) hb);have n6_:=Aside0.mk (blk_below (g:=gb554) (o:= .cells #[.slice A0_0 l0_0.length c0_0,.int .i64 a0_1,.string a0_2,.int .i64 a0_3] 61 (0,0)) (by (with_reducible repeat (first|apply bN|apply bd|apply bA));refine blk_far ?_ NB554_628.out _;(with_reducible repeat (first|apply bN|apply bd|apply bA));refine blk_far ?_ NB554_628.out _;(with_reducible repeat (first|apply bN|apply bd|apply bA));refine blk_far ?_ NB554_628.out _;(with_reducible repeat (first|apply bN|apply bd|apply bA));refine blk_far ?_ NB554_628.out _;(with_reducible repeat (first|apply bN|apply bd|apply bA));exact BK554.out) hb);have n7_:=Aside0.mk (blk_below (g:=gb573) (o:= .cells #[.slice Ao30 t566.length co30,.int .i64 t569,.string t570,.int .i64 t571] 36 (0,0)) (by (with_reducible repeat (first|apply bN|apply bd|apply bA));refine blk_far ?_ NB573_628.out _;(with_reducible repeat (first|apply bN|apply bd|apply bA));refine blk_far ?_ NB573_628.out _;(with_reducible repeat (first|apply bN|apply bd|apply bA));refine blk_far ?_ NB573_628.out _;(with_reducible repeat (first|apply bN|apply bd|apply bA));refine blk_far ?_ NB573_628.out _;(with_reducible repeat (first|apply bN|apply bd|apply bA));exact BK573.out) hb);have n8_:=Aside0.mk (blk_below (g:=gb580) (o:= .cells #[.slice Ao36 t605.length co36,.int .i64 t577,.string t578,.int .i64 t579] 36 (0,0)) (by (with_reducible repeat (first|apply bN|apply bd|apply bA));refine blk_far ?_ NB580_628.out _;(with_reducible repeat (first|apply bN|apply bd|apply bA));refine blk_far ?_ NB580_628.out _;(with_reducible repeat (first|apply bN|apply bd|apply bA));refine blk_far ?_ NB580_628.out _;(with_reducible repeat (first|apply bN|apply bd|apply bA));refine blk_far ?_ NB580_628.out _;(with_reducible repeat (first|apply bN|apply bd|apply bA));exact BK580.out) hb);have n9_:=Aside0.mk (blk_below (g:=gb591) (o:= .cells #[.slice Ao45 t584.length co45,.int .i64 t587,.string t588,.int .i64 t589] 36 (0,0)) (by (with_reducible repeat (first|apply bN|apply bd|apply bA));refine blk_far ?_ NB591_628.out _;(with_reducible repeat (first|apply bN|apply bd|apply bA));refine blk_far ?_ NB591_628.out _;(with_reducible repeat (first|apply bN|apply bd|apply bA));refine blk_far ?_ NB591_628.out _;(with_reducible repeat (first|apply bN|apply bd|apply bA));refine blk_far ?_ NB591_628.out _;(with_reducible repeat (first|apply bN|apply bd|apply bA));exact BK591.out) hb);have n10_:=Aside0.mk (blk_below (g:=gb628) (o:= .cells #[.slice Ao119 t621.length co119,.int .i64 t624,.string t625,.int .i64 t626] 36 (0,0)) (by (with_reducible repeat (first|apply bN|apply bd|apply bA));refine blk_put (cs:= #[.slice Ao119 t621.length co119,.int .i64 t624,.string t625,.int .i64 0]) ?_ 3 _ rfl;(with_reducible repeat (first|apply bN|apply bd|apply bA));refine blk_put (cs:= #[.slice Ao119 t621.length co119,.int .i64 t624,.string (⟨#[]⟩:ByteArray),.int .i64 0]) ?_ 2 _ rfl;(with_reducible repeat (first|apply bN|apply bd|apply bA));refine blk_put (cs:= #[.slice Ao119 t621.length co119,.int .i64 0,.string (⟨#[]⟩:ByteArray),.int .i64 0]) ?_ 1 _ rfl;(with_reducible repeat (first|apply bN|apply bd|apply bA));refine blk_put (cs:= #[.slice none 0 0,.int .i64 0,.string (⟨#[]⟩:ByteArray),.int .i64 0]) ?_ 0 _ rfl;(with_reducible repeat (first|apply bN|apply bd|apply bA));exact BK628.out) hb);have n11_:=Aside0.mk (below_step (by repeat (first|(with_reducible first|exact HB.out|apply below_alloc|apply pw_below_drewN|apply below_drew1|refine below_set ?_ GE554.out|refine below_set ?_ GE573.out|refine below_set ?_ GE580.out|refine below_set ?_ GE591.out|refine below_set ?_ GE628.out)|exact HB.out)) hb);clear HO_574000;clear HO_581000;clear HO_592000;clear HO614;clear HO620;clear HO623;clear BK554;clear BK573;clear BK580;clear BK591;clear BK628;clear HB;have HO_574000:=n0_;have HO_581000:=n1_;have HO_592000:=n2_;have HO614:=n3_;have HO620:=n4_;have HO623:=n5_;have BK554:=n6_;have BK573:=n7_;have BK580:=n8_;have BK591:=n9_;have BK628:=n10_;have HB:=n11_;clear n0_ n1_ n2_ n3_ n4_ n5_ n6_ n7_ n8_ n9_ n10_ n11_;(try clear hb);(try clear hb2);(try clear hk);(try clear hi)))
                              go_meet
                              case rel=> exact ⟨_,((t627 !=t572)),(by first|rfl|(simp;done)|(simp [*];done)),H',⟨by have:=HJ18.out;have:=HJ68.out;first|omega|exact Nat.le_refl _⟩,⟨by (try simp only [hl581000_68]);(with_reducible repeat (first|apply Kd.R_alloc|apply Kd.R_drewN|apply Kd.R_drew));exact Kd.R_mono HO_574000.out (fun _ hk=> ⟨hk.1.1.1.1,⟨hk.1.1.1.2,hk.2⟩⟩)⟩,⟨by (try simp only [hl581000_68]);(with_reducible repeat (first|apply Kd.R_alloc|apply Kd.R_drewN|apply Kd.R_drew));exact Kd.R_mono HO_581000.out (fun _ hk=> ⟨hk.1.1.1.1,⟨hk.1.1.1.2,hk.2⟩⟩)⟩,⟨by (try simp only [hl581000_68]);(with_reducible repeat (first|apply Kd.R_alloc|apply Kd.R_drewN|apply Kd.R_drew));exact Kd.R_mono HO_592000.out (fun _ hk=> ⟨hk.1.1.1.1,⟨hk.1.1.1.2,hk.2⟩⟩)⟩,⟨by (try simp only [hl581000_68]);(with_reducible repeat (first|apply Kd.R_alloc|apply Kd.R_drewN|apply Kd.R_drew));exact Kd.R_mono HO623.out (fun _ hk=> ⟨hk.1.1.1.1.2,⟨hk.1.1.1.2,hk.1.1.2⟩⟩)⟩,⟨by (try simp only [hl581000_68]);(with_reducible repeat (first|apply bN|apply bd|apply bA));exact BK554.out⟩,⟨by (try simp only [hl581000_68]);(with_reducible repeat (first|apply bN|apply bd|apply bA));exact BK573.out⟩,⟨by (try simp only [hl581000_68]);(with_reducible repeat (first|apply bN|apply bd|apply bA));exact BK580.out⟩,⟨by (try simp only [hl581000_68]);(with_reducible repeat (first|apply bN|apply bd|apply bA));exact BK591.out⟩,⟨by (try simp only [hl581000_68]);(with_reducible repeat (first|apply bN|apply bd|apply bA));exact BK628.out⟩,⟨by repeat (first|(with_reducible first|exact HB.out|apply below_alloc|apply pw_below_drewN|apply below_drew1|refine below_set ?_ GE554.out|refine below_set ?_ GE573.out|refine below_set ?_ GE580.out|refine below_set ?_ GE591.out|refine below_set ?_ GE628.out)|exact HB.out)⟩⟩
                            · replace c126:=Bool.eq_false_iff.mpr c126
                              subst c126
                              have H1:(none)=some r:=by rw [if_neg (show ¬ (false=true) by decide)] at H;exact H
                              clear H
                              have H:=H1
                              clear H1
                              exact absurd H (by simp)
                          case rest=>
                            clear HC102
                            try clear c1
                            try clear p2
                            try clear c3
                            try clear c4
                            try clear c4b0
                            try clear c5
                            try clear c6
                            try clear c7
                            try clear c8
                            try clear c9
                            try clear c9b0
                            try clear c10
                            try clear c11
                            try clear c12
                            try clear c13
                            try clear c17
                            try clear c31
                            try clear c36
                            try clear c37
                            try clear c38
                            try clear c46
                            try clear c47
                            try clear c48
                            try clear c51
                            try clear c52
                            try clear c53
                            try clear c54
                            try clear c55
                            try clear c56
                            try clear c57
                            try clear c59
                            try clear c60
                            try clear c61
                            try clear c63
                            try clear c64
                            try clear c66
                            try clear c67
                            try clear c68
                            try clear c77
                            try clear c78
                            try clear c79
                            try clear c83
                            try clear c83b0
                            try clear c85
                            try clear c86
                            try clear c87
                            try clear c88
                            try clear c90
                            try clear c91
                            try clear c94
                            try clear c97
                            try clear c97b0
                            try clear c98
                            try clear c98b0
                            try clear c98b1
                            try clear c103
                            try clear c104
                            try clear c105
                            try clear c110
                            try clear c111
                            try clear c120
                            try clear c121
                            try clear c122
                            try clear c123
                            try clear c126
                            try clear c127
                            try clear c128
                            try clear c129
                            try clear c130
                            try clear c132
                            try clear c133
                            try clear c134
                            try clear hcz106_0
                            try clear hcz106_1
                            try clear hcz106_2
                            try clear hcz106_3
                            try clear hcz108_0
                            try clear hcz108_1
                            try clear hcz108_2
                            try clear hcz108_3
                            try clear hcz112_0
                            try clear hcz112_1
                            try clear hcz112_2
                            try clear hcz112_3
                            try clear hcz11_0
                            try clear hcz11_1
                            try clear hcz11_2
                            try clear hcz11_3
                            try clear hcz124_0
                            try clear hcz124_1
                            try clear hcz124_2
                            try clear hcz124_3
                            try clear hcz131_0
                            try clear hcz131_1
                            try clear hcz131_2
                            try clear hcz131_3
                            try clear hcz135_0
                            try clear hcz135_1
                            try clear hcz135_2
                            try clear hcz135_3
                            try clear hcz21_0
                            try clear hcz21_1
                            try clear hcz21_2
                            try clear hcz21_3
                            try clear hcz23_0
                            try clear hcz23_1
                            try clear hcz23_2
                            try clear hcz23_3
                            try clear hcz32_0
                            try clear hcz32_1
                            try clear hcz32_2
                            try clear hcz32_3
                            try clear hcz33_0
                            try clear hcz33_1
                            try clear hcz33_2
                            try clear hcz33_3
                            try clear hcz39_0
                            try clear hcz39_1
                            try clear hcz39_2
                            try clear hcz39_3
                            try clear hcz41_0
                            try clear hcz41_1
                            try clear hcz41_2
                            try clear hcz41_3
                            try clear hcz49_0
                            try clear hcz49_1
                            try clear hcz49_2
                            try clear hcz49_3
                            try clear hcz55_0
                            try clear hcz55_1
                            try clear hcz55_2
                            try clear hcz55_3
                            try clear hcz58_0
                            try clear hcz58_1
                            try clear hcz58_2
                            try clear hcz58_3
                            try clear hcz6_0
                            try clear hcz6_1
                            try clear hcz6_2
                            try clear hcz6_3
                            try clear hcz80_0
                            try clear hcz80_1
                            try clear hcz80_2
                            try clear hcz80_3
                            try clear hcz89_0
                            try clear hcz89_1
                            try clear hcz89_2
                            try clear hcz89_3
                            try clear hcz92_0
                            try clear hcz92_1
                            try clear hcz92_2
                            try clear hcz92_3
                            try clear hfz106_0
                            try clear hfz106_1
                            try clear hfz106_2
                            try clear hfz106_3
                            try clear hfz108_0
                            try clear hfz108_1
                            try clear hfz108_2
                            try clear hfz108_3
                            try clear hfz112_0
                            try clear hfz112_1
                            try clear hfz112_2
                            try clear hfz112_3
                            try clear hfz11_0
                            try clear hfz11_1
                            try clear hfz11_2
                            try clear hfz11_3
                            try clear hfz124_0
                            try clear hfz124_1
                            try clear hfz124_2
                            try clear hfz124_3
                            try clear hfz131_0
                            try clear hfz131_1
                            try clear hfz131_2
                            try clear hfz131_3
                            try clear hfz135_0
                            try clear hfz135_1
                            try clear hfz135_2
                            try clear hfz135_3
                            try clear hfz21_0
                            try clear hfz21_1
                            try clear hfz21_2
                            try clear hfz21_3
                            try clear hfz23_0
                            try clear hfz23_1
                            try clear hfz23_2
                            try clear hfz23_3
                            try clear hfz32_0
                            try clear hfz32_1
                            try clear hfz32_2
                            try clear hfz32_3
                            try clear hfz33_0
                            try clear hfz33_1
                            try clear hfz33_2
                            try clear hfz33_3
                            try clear hfz39_0
                            try clear hfz39_1
                            try clear hfz39_2
                            try clear hfz39_3
                            try clear hfz41_0
                            try clear hfz41_1
                            try clear hfz41_2
                            try clear hfz41_3
                            try clear hfz49_0
                            try clear hfz49_1
                            try clear hfz49_2
                            try clear hfz49_3
                            try clear hfz55_0
                            try clear hfz55_1
                            try clear hfz55_2
                            try clear hfz55_3
                            try clear hfz58_0
                            try clear hfz58_1
                            try clear hfz58_2
                            try clear hfz58_3
                            try clear hfz6_0
                            try clear hfz6_1
                            try clear hfz6_2
                            try clear hfz6_3
                            try clear hfz80_0
                            try clear hfz80_1
                            try clear hfz80_2
                            try clear hfz80_3
                            try clear hfz89_0
                            try clear hfz89_1
                            try clear hfz89_2
                            try clear hfz89_3
                            try clear hfz92_0
                            try clear hfz92_1
                            try clear hfz92_2
                            try clear hfz92_3
                            try clear p2
                            obtain ⟨kq,x110_101,rfl,HA,HJ101,HO_574000,HO_581000,HO_592000,HO_629000,BK554,BK573,BK580,BK591,BK628,HB⟩:=hcut
                            have hl592000_101:=(Kd.R_reads' HO_592000.out).1
                            rw [hl592000_101] at HO_592000
                            (try simp only [hl592000_101])
                            (try simp only [hl592000_101] at BK554)
                            (try simp only [hl592000_101] at BK573)
                            (try simp only [hl592000_101] at BK580)
                            (try simp only [hl592000_101] at BK591)
                            (try simp only [hl592000_101] at BK628)
                            (try simp only [hl592000_101] at HO_574000)
                            (try simp only [hl592000_101] at HO_581000)
                            (try simp only [hl592000_101] at HO_629000)
                            cases kq with
                            |zero=> exact absurd HA.out (by simp [laws_FnExactAbsorbExts.j2])
                            |succ kj101=>
                              have H:=HA.out
                              clear HA
                              simp only [laws_FnExactAbsorbExts.j2] at H
                              by_cases c137:x110_101=true
                              · subst c137
                                have H1:(none)=some r:=by rw [if_pos rfl] at H;exact H
                                clear H
                                have H:=H1
                                clear H1
                                exact absurd H (by simp)
                              · replace c137:=Bool.eq_false_iff.mpr c137
                                subst c137
                                have H1:((laws_heldSource.f kj101 t610 t587 t588 t589 1).bind fun t630=> (if t630 < 0 then (none) else (if t630=t609 then (some true) else (none))))=some r:=by rw [if_neg (show ¬ (false=true) by decide)] at H;exact H
                                clear H
                                have H:=H1
                                clear H1
                                replace H:=Option.bind_eq_some_iff.mp H
                                obtain ⟨t630,A1380,H⟩:=H
                                replace H:(if t630 < 0 then (none) else (if t630=t609 then (some true) else (none)))=some r:=H
                                have A138:=Aside0.mk A1380
                                clear A1380
                                by_cases c139:t630 < 0
                                · rw [if_pos c139] at H
                                  exact absurd H (by simp)
                                · rw [if_neg c139] at H
                                  have c139b0:decide (t630 < 0)=false:=decide_eq_false c139
                                  clear c139
                                  by_cases c140:t630=t609
                                  · rw [if_pos c140] at H
                                    have c140b0:(t630==t609)=true:=beq_iff_eq.mpr c140
                                    have c140b1:(t630 !=t609)=false:=bne_eq_false_iff_eq.mpr c140
                                    clear c140
                                    obtain rfl:=Option.some.inj H
                                    have hnb141:=NB591_554.out
                                    have hnc141:=NB554_591.out
                                    have hnb142:=NB591_573.out
                                    have hnc142:=NB573_591.out
                                    have hnb143:=NB591_580.out
                                    have hnc143:=NB580_591.out
                                    have hnb144:=NB591_628.out
                                    have hnc144:=NB628_591.out
                                    have hcz145_0:wc.cell? ⟨gb591,0,none⟩=some (.slice Ao45 t610.length co45):=(blk_cell BK591.out 0).trans rfl
                                    have hcz145_1:wc.cell? ⟨gb591,1,none⟩=some (.int .i64 t587):=(blk_cell BK591.out 1).trans rfl
                                    have hcz145_2:wc.cell? ⟨gb591,2,none⟩=some (.string t588):=(blk_cell BK591.out 2).trans rfl
                                    have hcz145_3:wc.cell? ⟨gb591,3,none⟩=some (.int .i64 t589):=(blk_cell BK591.out 3).trans rfl
                                    have hfz145_0:=blk_frozen BK591.out 0
                                    have hfz145_1:=blk_frozen BK591.out 1
                                    have hfz145_2:=blk_frozen BK591.out 2
                                    have hfz145_3:=blk_frozen BK591.out 3
                                    go_wp2_with (first|((with_reducible refine gate_callee (f:=38) rfl ?_);refine goesL_ (some 113) rfl rfl Try.func38 (by kernel_rfl) rfl #[.agg #[.slice Ao45 t610.length co45,.int .i64 t587,.string t588,.int .i64 t589],.int .i64 1] rfl (by (try simp only [List.map_toArray,List.map_cons,List.map_nil]);first|done|rfl|(simp only [List.length_drop,List.length_take];rfl)) ?_;(with_reducible refine (laws_heldSource.calls kj101 _ _ t610 t587 t588 t589 1 t630 _ ?side1 ?side2 A138.out).mono ?_);(case side1=> repeat (first|exact (Kd.R_reads' HO_592000.out).2.2|(with_reducible refine Kd.C_alloc ?_ _)|(with_reducible refine Kd.C_drewN ?_ _)|(with_reducible refine Kd.C_drew ?_)));(case side2=> exact (Kd.R_reads' HO_592000.out).2.1);rintro e w146 ⟨rfl,hb⟩;refine ⟨_,rfl,?_⟩;have n0_:=Aside0.mk (Kd.R_below (by (with_reducible repeat (first|apply Kd.R_alloc|apply Kd.R_drewN|apply Kd.R_drew));exact HO_574000.out) hb);have n1_:=Aside0.mk (Kd.R_below (by (with_reducible repeat (first|apply Kd.R_alloc|apply Kd.R_drewN|apply Kd.R_drew));exact HO_581000.out) hb);have n2_:=Aside0.mk (Kd.R_below (by (with_reducible repeat (first|apply Kd.R_alloc|apply Kd.R_drewN|apply Kd.R_drew));exact HO_592000.out) hb);have n3_:=Aside0.mk (Kd.R_below (by (with_reducible repeat (first|apply Kd.R_alloc|apply Kd.R_drewN|apply Kd.R_drew));exact HO_629000.out) hb);have n4_:=Aside0.mk (blk_below (g:=gb554) (o:= .cells #[.slice A0_0 l0_0.length c0_0,.int .i64 a0_1,.string a0_2,.int .i64 a0_3] 61 (0,0)) (by (with_reducible repeat (first|apply bN|apply bd|apply bA));exact BK554.out) hb);have n5_:=Aside0.mk (blk_below (g:=gb573) (o:= .cells #[.slice Ao30 t566.length co30,.int .i64 t569,.string t570,.int .i64 t571] 36 (0,0)) (by (with_reducible repeat (first|apply bN|apply bd|apply bA));exact BK573.out) hb);have n6_:=Aside0.mk (blk_below (g:=gb580) (o:= .cells #[.slice Ao36 t605.length co36,.int .i64 t577,.string t578,.int .i64 t579] 36 (0,0)) (by (with_reducible repeat (first|apply bN|apply bd|apply bA));exact BK580.out) hb);have n7_:=Aside0.mk (blk_below (g:=gb591) (o:= .cells #[.slice Ao45 t610.length co45,.int .i64 t587,.string t588,.int .i64 t589] 36 (0,0)) (by (with_reducible repeat (first|apply bN|apply bd|apply bA));exact BK591.out) hb);have n8_:=Aside0.mk (blk_below (g:=gb628) (o:= .cells #[.slice Ao119 t621.length co119,.int .i64 t624,.string t625,.int .i64 t626] 36 (0,0)) (by (with_reducible repeat (first|apply bN|apply bd|apply bA));exact BK628.out) hb);have n9_:=Aside0.mk (below_step (by repeat (first|(with_reducible first|exact HB.out|apply below_alloc|apply pw_below_drewN|apply below_drew1|refine below_set ?_ GE554.out|refine below_set ?_ GE573.out|refine below_set ?_ GE580.out|refine below_set ?_ GE591.out|refine below_set ?_ GE628.out)|exact HB.out)) hb);clear HO_574000;clear HO_581000;clear HO_592000;clear HO_629000;clear BK554;clear BK573;clear BK580;clear BK591;clear BK628;clear HB;have HO_574000:=n0_;have HO_581000:=n1_;have HO_592000:=n2_;have HO_629000:=n3_;have BK554:=n4_;have BK573:=n5_;have BK580:=n6_;have BK591:=n7_;have BK628:=n8_;have HB:=n9_;clear n0_ n1_ n2_ n3_ n4_ n5_ n6_ n7_ n8_ n9_;(try clear hb);(try clear hb2);(try clear hk);(try clear hi)))
                                    go_ret
                                    exact ⟨by first|rfl|(simp [errW_none,errW_some] <;> rfl)|(simp [*,errW_none,errW_some] <;> rfl),by repeat (first|(with_reducible first|exact HB.out|apply below_alloc|apply pw_below_drewN|apply below_drew1|refine below_set ?_ GE554.out|refine below_set ?_ GE573.out|refine below_set ?_ GE580.out|refine below_set ?_ GE591.out|refine below_set ?_ GE628.out)|exact HB.out)⟩
                                  · rw [if_neg c140] at H
                                    exact absurd H (by simp)
                        · rw [if_neg c98] at H
                          exact absurd H (by simp)
              · replace c66:=Bool.eq_false_iff.mpr c66
                subst c66
                have H1:(none)=some r:=by rw [if_neg (show ¬ (false=true) by decide)] at H;exact H
                clear H
                have H:=H1
                clear H1
                exact absurd H (by simp)
            · replace c63:=Bool.eq_false_iff.mpr c63
              subst c63
              have H1:(none)=some r:=by rw [if_neg (show ¬ (false=true) by decide)] at H;exact H
              clear H
              have H:=H1
              clear H1
              exact absurd H (by simp)
end Go.Proofs.Ytlogocmojnhpbaa.Print
