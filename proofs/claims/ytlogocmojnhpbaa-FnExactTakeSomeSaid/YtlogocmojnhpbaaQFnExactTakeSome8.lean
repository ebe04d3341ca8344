-- Packed by a program of this session (slim.py) out of printed texts; not trusted, Lean checks it.
import Derived.Test.YtlogocmojnhpbaaP0
import Derived.Test.YtlogocmojnhpbaaQFnExactTakeSome1
import Derived.Test.YtlogocmojnhpbaaQFnExactTakeSome2
import Derived.Test.YtlogocmojnhpbaaQFnExactTakeSome3
import Derived.Test.YtlogocmojnhpbaaQFnExactTakeSome7
namespace Go.Proofs.Ytlogocmojnhpbaa.Print
open Go.RowKit Go.Proofs.YtlogocmojnhpbaaW.PrintWords Go.Proofs.YtlogocmojnhpbaaW.PrintLast Go.Proofs.YtlogocmojnhpbaaW.PrintMore
attribute [local go_sem] max2_int min2_int max_two min_two max_three min_three max_four min_four
set_option linter.unusedVariables false
set_option linter.unusedSimpArgs false
mutual
def laws_FnExactTakeSome.j0:Nat → Int → List (S79) → Int → List (S79) → Int → Bool → List (S125) → Int → ByteArray → Int → List (S79) → Int → ByteArray → Int → List (S79) → Int → ByteArray → Int → List (S79) → Int → ByteArray → Int → Option (Bool)
  |0,_,_,_,_,_,_,_,_,_,_,_,_,_,_,_,_,_,_,_,_,_,_=> none
  |k + 1,x1,x7,x8,x11,x12,x55,x815000,x815001,x815002,x815003,x833000,x833001,x833002,x833003,x840000,x840001,x840002,x840003,x851000,x851001,x851002,x851003=> if x55=true then (none) else ((laws_toSource.f k x815000 x815001 x815002 x815003).bind fun bt853=> ((laws_eqSource.f k x840000 x840001 x840002 x840003 bt853.1 bt853.2.1 bt853.2.2.1 bt853.2.2.2).bind fun t859=> (if t859=true then ((laws_markSource.f k x840000 x840001 x840002 x840003 1).bind fun bt860=> (if bt860.1 < 0 then (none) else ((laws_eqSource.f k x851000 x851001 x851002 x851003 x833000 x833001 x833002 x833003).bind fun t862=> (if t862=true then ((laws_eqExtS.f k x11 x7).bind fun t863=> (if t863=true then (laws_FnExactTakeSome.j1 k x1 x7 x8 x11 (x12 !=x8) x815000 x815001 x815002 x815003 x833000 x833001 x833002 x833003 x851000 x851001 x851002 x851003) else (none))) else (none))))) else (none))))
def laws_FnExactTakeSome.j1:Nat → Int → List (S79) → Int → List (S79) → Bool → List (S125) → Int → ByteArray → Int → List (S79) → Int → ByteArray → Int → List (S79) → Int → ByteArray → Int → Option (Bool)
  |0,_,_,_,_,_,_,_,_,_,_,_,_,_,_,_,_,_=> none
  |k + 1,x1,x7,x8,x11,x82,x815000,x815001,x815002,x815003,x833000,x833001,x833002,x833003,x851000,x851001,x851002,x851003=> if x82=true then (none) else ((laws_markSource.f k x851000 x851001 x851002 x851003 1).bind fun bt864=> ((laws_markExtS.f k x11 bt864.1).bind fun bt866=> ((laws_heldSource.f k bt864.2 x851001 x851002 x851003 1).bind fun t868=> (if t868 < 0 then (none) else ((laws_heldExtS.f k bt866.2 t868).bind fun t869=> (if t869 < 0 then (none) else (if t869=bt866.1 then ((laws_toSource.f k x815000 x815001 x815002 x815003).bind fun bt870=> ((impl_TakeSome.f bt870.1 bt870.2.1 bt870.2.2.1 bt870.2.2.2 x1).bind fun bt876=> ((laws_eqSource.f k bt876.1 bt876.2.1 bt876.2.2.1 bt876.2.2.2.1 x833000 x833001 x833002 x833003).bind fun t887=> (if t887=true then ((laws_eqExtS.f k bt876.2.2.2.2.1 x7).bind fun t888=> (if t888=true then (laws_FnExactTakeSome.j2 k bt866.2 bt866.1 (bt876.2.2.2.2.2 !=x8) bt864.2 x851001 x851002 x851003) else (none))) else (none))))) else (none))))))))
def laws_FnExactTakeSome.j2:Nat → List (S79) → Int → Bool → List (S79) → Int → ByteArray → Int → Option (Bool)
  |0,_,_,_,_,_,_,_=> none
  |k + 1,x11,x14,x124,x851000,x851001,x851002,x851003=> if x124=true then (none) else ((laws_heldSource.f k x851000 x851001 x851002 x851003 1).bind fun t889=> (if t889 < 0 then (none) else ((laws_heldExtS.f k x11 t889).bind fun t890=> (if t890 < 0 then (none) else (if t890=x14 then (some true) else (none))))))
end
def laws_FnExactTakeSome.f (k:Nat) (l0_0:List (S125)) (a0_1:Int) (a0_2:ByteArray) (a0_3:Int) (a1:Int):Option (Bool):=(laws_szSource.f l0_0 a0_1 a0_2 a0_3 1048576).bind fun t815=> (if t815 < 0 then (some true) else ((laws_toSource.f k l0_0 a0_1 a0_2 a0_3).bind fun bt816=> ((spec_TakeSome.f k bt816.1 bt816.2.1 bt816.2.2.1 bt816.2.2.2 a1).bind fun bt822=> ((laws_toSource.f k l0_0 a0_1 a0_2 a0_3).bind fun bt833=> ((impl_TakeSome.f bt833.1 bt833.2.1 bt833.2.2.1 bt833.2.2.2 a1).bind fun bt840=> ((laws_eqSource.f k bt840.1 bt840.2.1 bt840.2.2.1 bt840.2.2.2.1 bt822.1 bt822.2.1 bt822.2.2.1 bt822.2.2.2.1).bind fun t851=> (if t851=true then ((laws_eqExtS.f k bt840.2.2.2.2.1 bt822.2.2.2.2.1).bind fun t852=> (if t852=true then (laws_FnExactTakeSome.j0 k a1 bt822.2.2.2.2.1 bt822.2.2.2.2.2 bt840.2.2.2.2.1 bt840.2.2.2.2.2 (bt840.2.2.2.2.2 !=bt822.2.2.2.2.2) l0_0 a0_1 a0_2 a0_3 bt822.1 bt822.2.1 bt822.2.2.1 bt822.2.2.2.1 bt833.1 bt833.2.1 bt833.2.2.1 bt833.2.2.2 bt840.1 bt840.2.1 bt840.2.2.1 bt840.2.2.2.1) else (none))) else (none))))))))
theorem laws_FnExactTakeSome.mono_l:∀ k,(∀ y0 y1 y2 y3 y4 y5 y6 y7 y8 y9 y10 y11 y12 y13 y14 y15 y16 y17 y18 y19 y20 y21,LeO (laws_FnExactTakeSome.j0 k y0 y1 y2 y3 y4 y5 y6 y7 y8 y9 y10 y11 y12 y13 y14 y15 y16 y17 y18 y19 y20 y21) (laws_FnExactTakeSome.j0 (k + 1) y0 y1 y2 y3 y4 y5 y6 y7 y8 y9 y10 y11 y12 y13 y14 y15 y16 y17 y18 y19 y20 y21)) ∧ (∀ y0 y1 y2 y3 y4 y5 y6 y7 y8 y9 y10 y11 y12 y13 y14 y15 y16,LeO (laws_FnExactTakeSome.j1 k y0 y1 y2 y3 y4 y5 y6 y7 y8 y9 y10 y11 y12 y13 y14 y15 y16) (laws_FnExactTakeSome.j1 (k + 1) y0 y1 y2 y3 y4 y5 y6 y7 y8 y9 y10 y11 y12 y13 y14 y15 y16)) ∧ (∀ y0 y1 y2 y3 y4 y5 y6,LeO (laws_FnExactTakeSome.j2 k y0 y1 y2 y3 y4 y5 y6) (laws_FnExactTakeSome.j2 (k + 1) y0 y1 y2 y3 y4 y5 y6))
  |0=> ⟨fun _ _ _ _ _ _ _ _ _ _ _ _ _ _ _ _ _ _ _ _ _ _ r h=> by simp [laws_FnExactTakeSome.j0] at h,fun _ _ _ _ _ _ _ _ _ _ _ _ _ _ _ _ _ r h=> by simp [laws_FnExactTakeSome.j1] at h,fun _ _ _ _ _ _ _ r h=> by simp [laws_FnExactTakeSome.j2] at h⟩
  |k + 1=> by
    obtain ⟨ih0,ih1,ih2⟩:=laws_FnExactTakeSome.mono_l k
    refine ⟨?_,?_,?_⟩
    · intro y0 y1 y2 y3 y4 y5 y6 y7 y8 y9 y10 y11 y12 y13 y14 y15 y16 y17 y18 y19 y20 y21
      unfold laws_FnExactTakeSome.j0
      repeat' first
      |(with_reducible exact ih0 _ _ _ _ _ _ _ _ _ _ _ _ _ _ _ _ _ _ _ _ _ _)
      |(with_reducible exact ih1 _ _ _ _ _ _ _ _ _ _ _ _ _ _ _ _ _)
      |(with_reducible exact ih2 _ _ _ _ _ _ _)
      |(with_reducible exact laws_eqExtS.mono _ _ _)
      |(with_reducible exact laws_eqSource.mono _ _ _ _ _ _ _ _ _)
      |(with_reducible exact laws_heldExtS.mono _ _ _)
      |(with_reducible exact laws_heldSource.mono _ _ _ _ _ _)
      |(with_reducible exact laws_markExtS.mono _ _ _)
      |(with_reducible exact laws_markSource.mono _ _ _ _ _ _)
      |(with_reducible exact laws_toSource.mono _ _ _ _ _)
      |(with_reducible exact spec_TakeSome.mono _ _ _ _ _ _)
      |(with_reducible exact LeO.refl _)
      |(with_reducible exact LeO.none _)
      |(with_reducible refine LeO.ite ?_ ?_)
      |(with_reducible refine LeO.bind ?_ (fun _=> ?_))
      |exact ih0 _ _ _ _ _ _ _ _ _ _ _ _ _ _ _ _ _ _ _ _ _ _
      |exact ih1 _ _ _ _ _ _ _ _ _ _ _ _ _ _ _ _ _
      |exact ih2 _ _ _ _ _ _ _
      |exact laws_eqExtS.mono _ _ _
      |exact laws_eqSource.mono _ _ _ _ _ _ _ _ _
      |exact laws_heldExtS.mono _ _ _
      |exact laws_heldSource.mono _ _ _ _ _ _
      |exact laws_markExtS.mono _ _ _
      |exact laws_markSource.mono _ _ _ _ _ _
      |exact laws_toSource.mono _ _ _ _ _
      |exact spec_TakeSome.mono _ _ _ _ _ _
      |exact LeO.none _
      |refine LeO.ite ?_ ?_
      |refine LeO.bind ?_ (fun _=> ?_)
    · intro y0 y1 y2 y3 y4 y5 y6 y7 y8 y9 y10 y11 y12 y13 y14 y15 y16
      unfold laws_FnExactTakeSome.j1
      repeat' first
      |(with_reducible exact ih0 _ _ _ _ _ _ _ _ _ _ _ _ _ _ _ _ _ _ _ _ _ _)
      |(with_reducible exact ih1 _ _ _ _ _ _ _ _ _ _ _ _ _ _ _ _ _)
      |(with_reducible exact ih2 _ _ _ _ _ _ _)
      |(with_reducible exact laws_eqExtS.mono _ _ _)
      |(with_reducible exact laws_eqSource.mono _ _ _ _ _ _ _ _ _)
      |(with_reducible exact laws_heldExtS.mono _ _ _)
      |(with_reducible exact laws_heldSource.mono _ _ _ _ _ _)
      |(with_reducible exact laws_markExtS.mono _ _ _)
      |(with_reducible exact laws_markSource.mono _ _ _ _ _ _)
      |(with_reducible exact laws_toSource.mono _ _ _ _ _)
      |(with_reducible exact spec_TakeSome.mono _ _ _ _ _ _)
      |(with_reducible exact LeO.refl _)
      |(with_reducible exact LeO.none _)
      |(with_reducible refine LeO.ite ?_ ?_)
      |(with_reducible refine LeO.bind ?_ (fun _=> ?_))
      |exact ih0 _ _ _ _ _ _ _ _ _ _ _ _ _ _ _ _ _ _ _ _ _ _
      |exact ih1 _ _ _ _ _ _ _ _ _ _ _ _ _ _ _ _ _
      |exact ih2 _ _ _ _ _ _ _
      |exact laws_eqExtS.mono _ _ _
      |exact laws_eqSource.mono _ _ _ _ _ _ _ _ _
      |exact laws_heldExtS.mono _ _ _
      |exact laws_heldSource.mono _ _ _ _ _ _
      |exact laws_markExtS.mono _ _ _
      |exact laws_markSource.mono _ _ _ _ _ _
      |exact laws_toSource.mono _ _ _ _ _
      |exact spec_TakeSome.mono _ _ _ _ _ _
      |exact LeO.none _
      |refine LeO.ite ?_ ?_
      |refine LeO.bind ?_ (fun _=> ?_)
    · intro y0 y1 y2 y3 y4 y5 y6
      unfold laws_FnExactTakeSome.j2
      repeat' first
      |(with_reducible exact ih0 _ _ _ _ _ _ _ _ _ _ _ _ _ _ _ _ _ _ _ _ _ _)
      |(with_reducible exact ih1 _ _ _ _ _ _ _ _ _ _ _ _ _ _ _ _ _)
      |(with_reducible exact ih2 _ _ _ _ _ _ _)
      |(with_reducible exact laws_eqExtS.mono _ _ _)
      |(with_reducible exact laws_eqSource.mono _ _ _ _ _ _ _ _ _)
      |(with_reducible exact laws_heldExtS.mono _ _ _)
      |(with_reducible exact laws_heldSource.mono _ _ _ _ _ _)
      |(with_reducible exact laws_markExtS.mono _ _ _)
      |(with_reducible exact laws_markSource.mono _ _ _ _ _ _)
      |(with_reducible exact laws_toSource.mono _ _ _ _ _)
      |(with_reducible exact spec_TakeSome.mono _ _ _ _ _ _)
      |(with_reducible exact LeO.refl _)
      |(with_reducible exact LeO.none _)
      |(with_reducible refine LeO.ite ?_ ?_)
      |(with_reducible refine LeO.bind ?_ (fun _=> ?_))
      |exact ih0 _ _ _ _ _ _ _ _ _ _ _ _ _ _ _ _ _ _ _ _ _ _
      |exact ih1 _ _ _ _ _ _ _ _ _ _ _ _ _ _ _ _ _
      |exact ih2 _ _ _ _ _ _ _
      |exact laws_eqExtS.mono _ _ _
      |exact laws_eqSource.mono _ _ _ _ _ _ _ _ _
      |exact laws_heldExtS.mono _ _ _
      |exact laws_heldSource.mono _ _ _ _ _ _
      |exact laws_markExtS.mono _ _ _
      |exact laws_markSource.mono _ _ _ _ _ _
      |exact laws_toSource.mono _ _ _ _ _
      |exact spec_TakeSome.mono _ _ _ _ _ _
      |exact LeO.none _
      |refine LeO.ite ?_ ?_
      |refine LeO.bind ?_ (fun _=> ?_)
theorem laws_FnExactTakeSome.mono:∀ a0 a1 a2 a3 a4 k,LeO (laws_FnExactTakeSome.f k a0 a1 a2 a3 a4) (laws_FnExactTakeSome.f (k + 1) a0 a1 a2 a3 a4):=by
  intro a0 a1 a2 a3 a4 k
  obtain ⟨ih0,ih1,ih2⟩:=laws_FnExactTakeSome.mono_l k
  unfold laws_FnExactTakeSome.f
  repeat' first
      |(with_reducible exact ih0 _ _ _ _ _ _ _ _ _ _ _ _ _ _ _ _ _ _ _ _ _ _)
      |(with_reducible exact ih1 _ _ _ _ _ _ _ _ _ _ _ _ _ _ _ _ _)
      |(with_reducible exact ih2 _ _ _ _ _ _ _)
      |(with_reducible exact laws_eqExtS.mono _ _ _)
      |(with_reducible exact laws_eqSource.mono _ _ _ _ _ _ _ _ _)
      |(with_reducible exact laws_heldExtS.mono _ _ _)
      |(with_reducible exact laws_heldSource.mono _ _ _ _ _ _)
      |(with_reducible exact laws_markExtS.mono _ _ _)
      |(with_reducible exact laws_markSource.mono _ _ _ _ _ _)
      |(with_reducible exact laws_toSource.mono _ _ _ _ _)
      |(with_reducible exact spec_TakeSome.mono _ _ _ _ _ _)
      |(with_reducible exact LeO.refl _)
      |(with_reducible exact LeO.none _)
      |(with_reducible refine LeO.ite ?_ ?_)
      |(with_reducible refine LeO.bind ?_ (fun _=> ?_))
      |exact ih0 _ _ _ _ _ _ _ _ _ _ _ _ _ _ _ _ _ _ _ _ _ _
      |exact ih1 _ _ _ _ _ _ _ _ _ _ _ _ _ _ _ _ _
      |exact ih2 _ _ _ _ _ _ _
      |exact laws_eqExtS.mono _ _ _
      |exact laws_eqSource.mono _ _ _ _ _ _ _ _ _
      |exact laws_heldExtS.mono _ _ _
      |exact laws_heldSource.mono _ _ _ _ _ _
      |exact laws_markExtS.mono _ _ _
      |exact laws_markSource.mono _ _ _ _ _ _
      |exact laws_toSource.mono _ _ _ _ _
      |exact spec_TakeSome.mono _ _ _ _ _ _
      |exact LeO.none _
      |refine LeO.ite ?_ ?_
      |refine LeO.bind ?_ (fun _=> ?_)
set_option maxHeartbeats 8000000 in
set_option maxRecDepth 100000 in
theorem laws_FnExactTakeSome.calls (k:Nat) (A0_0:Option Addr) (c0_0:Nat) (l0_0:List (S125)) (a0_1:Int) (a0_2:ByteArray) (a0_3:Int) (a1:Int) (r:Bool) (w:World) (hr0_0:Kd.C k125 w A0_0 l0_0.length l0_0) (hc0_0:l0_0.length ≤ c0_0) (h:laws_FnExactTakeSome.f k l0_0 a0_1 a0_2 a0_3 a1=some r):
    Calls Try.prog 19 #[.agg #[.slice A0_0 l0_0.length c0_0,.int .i64 a0_1,.string a0_2,.int .i64 a0_3],.int .i64 a1] w fun e w'=> e= .returned (.bool r) ∧ Below w.heap.size w w':=by
  have hu61:=Try.underlying61
  have hu36:=Try.underlying36
  have HR0_0:=Aside0.mk hr0_0
  have HC0_0:=Aside0.mk hc0_0
  clear hr0_0 hc0_0
  have HB:=Aside0.mk (Below.refl w.heap.size w)
  have H:((laws_szSource.f l0_0 a0_1 a0_2 a0_3 1048576).bind fun t815=> (if t815 < 0 then (some true) else ((laws_toSource.f k l0_0 a0_1 a0_2 a0_3).bind fun bt816=> ((spec_TakeSome.f k bt816.1 bt816.2.1 bt816.2.2.1 bt816.2.2.2 a1).bind fun bt822=> ((laws_toSource.f k l0_0 a0_1 a0_2 a0_3).bind fun bt833=> ((impl_TakeSome.f bt833.1 bt833.2.1 bt833.2.2.1 bt833.2.2.2 a1).bind fun bt840=> ((laws_eqSource.f k bt840.1 bt840.2.1 bt840.2.2.1 bt840.2.2.2.1 bt822.1 bt822.2.1 bt822.2.2.1 bt822.2.2.2.1).bind fun t851=> (if t851=true then ((laws_eqExtS.f k bt840.2.2.2.2.1 bt822.2.2.2.2.1).bind fun t852=> (if t852=true then (laws_FnExactTakeSome.j0 k a1 bt822.2.2.2.2.1 bt822.2.2.2.2.2 bt840.2.2.2.2.1 bt840.2.2.2.2.2 (bt840.2.2.2.2.2 !=bt822.2.2.2.2.2) l0_0 a0_1 a0_2 a0_3 bt822.1 bt822.2.1 bt822.2.2.1 bt822.2.2.2.1 bt833.1 bt833.2.1 bt833.2.2.1 bt833.2.2.2 bt840.1 bt840.2.1 bt840.2.2.1 bt840.2.2.2.1) else (none))) else (none)))))))))=some r:=h
  clear h
  replace H:=Option.bind_eq_some_iff.mp H
  obtain ⟨t815,A30,H⟩:=H
  replace H:(if t815 < 0 then (some true) else ((laws_toSource.f k l0_0 a0_1 a0_2 a0_3).bind fun bt816=> ((spec_TakeSome.f k bt816.1 bt816.2.1 bt816.2.2.1 bt816.2.2.2 a1).bind fun bt822=> ((laws_toSource.f k l0_0 a0_1 a0_2 a0_3).bind fun bt833=> ((impl_TakeSome.f bt833.1 bt833.2.1 bt833.2.2.1 bt833.2.2.2 a1).bind fun bt840=> ((laws_eqSource.f k bt840.1 bt840.2.1 bt840.2.2.1 bt840.2.2.2.1 bt822.1 bt822.2.1 bt822.2.2.1 bt822.2.2.2.1).bind fun t851=> (if t851=true then ((laws_eqExtS.f k bt840.2.2.2.2.1 bt822.2.2.2.2.1).bind fun t852=> (if t852=true then (laws_FnExactTakeSome.j0 k a1 bt822.2.2.2.2.1 bt822.2.2.2.2.2 bt840.2.2.2.2.1 bt840.2.2.2.2.2 (bt840.2.2.2.2.2 !=bt822.2.2.2.2.2) l0_0 a0_1 a0_2 a0_3 bt822.1 bt822.2.1 bt822.2.2.1 bt822.2.2.2.1 bt833.1 bt833.2.1 bt833.2.2.1 bt833.2.2.2 bt840.1 bt840.2.1 bt840.2.2.1 bt840.2.2.2.1) else (none))) else (none))))))))=some r:=H
  have A3:=Aside0.mk A30
  clear A30
  by_cases c4:t815 < 0
  · rw [if_pos c4] at H
    have c4b0:decide (t815 < 0)=true:=decide_eq_true c4
    clear c4
    obtain rfl:=Option.some.inj H
    go_enter Try.func19,Try.ntmps19
    go_wp2_with (first|((with_reducible refine gate_dst (N:=2) rfl ?_);refine box_event ?hg (N:=2) ?hd (cs:= #[.slice A0_0 l0_0.length c0_0,.int .i64 a0_1,.string a0_2,.int .i64 a0_3]) (t:=61) ?hr ?_;(case hd=> rfl);(case hg=> rfl);(case hr=> first|(go_simp;done)|(go_simp;rfl));intro gb814 hg w5 hbox hb;have n0_:=Aside0.mk (below_step (by repeat (first|(with_reducible first|exact HB.out|apply below_alloc|apply pw_below_drewN|apply below_drew1)|exact HB.out)) hb);have n1_:=Aside0.mk (hbox);have n2_:=Aside0.mk ((by rw [hg];exact (below_size (by repeat (first|(with_reducible first|exact HB.out|apply below_alloc|apply pw_below_drewN|apply below_drew1)|exact HB.out))):w.heap.size ≤ gb814));have n3_:=Aside0.mk ((by rw [hg];exact (below_size (by repeat (first|(with_reducible first|exact HB.out|apply below_alloc|apply pw_below_drewN|apply below_drew1)|exact HB.out))):w.heap.size ≤ gb814));clear HB;have HB:=n0_;have BK814:=n1_;have GW814:=n2_;have GE814:=n3_;clear n0_ n1_ n2_ n3_;clear hb hbox hg;have hcz6_0:w5.cell? ⟨gb814,0,none⟩=some (.slice A0_0 l0_0.length c0_0):=(blk_cell BK814.out 0).trans rfl;have hcz6_1:w5.cell? ⟨gb814,1,none⟩=some (.int .i64 a0_1):=(blk_cell BK814.out 1).trans rfl;have hcz6_2:w5.cell? ⟨gb814,2,none⟩=some (.string a0_2):=(blk_cell BK814.out 2).trans rfl;have hcz6_3:w5.cell? ⟨gb814,3,none⟩=some (.int .i64 a0_3):=(blk_cell BK814.out 3).trans rfl;have hfz6_0:=blk_frozen BK814.out 0;have hfz6_1:=blk_frozen BK814.out 1;have hfz6_2:=blk_frozen BK814.out 2;have hfz6_3:=blk_frozen BK814.out 3)|((with_reducible refine gate_callee (f:=53) rfl ?_);refine goesL_ (some 21) rfl rfl Try.func53 (by kernel_rfl) rfl #[.agg #[.slice A0_0 l0_0.length c0_0,.int .i64 a0_1,.string a0_2,.int .i64 a0_3],.int .i64 1048576] rfl (by (try simp only [List.map_toArray,List.map_cons,List.map_nil]);first|done|rfl|(simp only [List.length_drop,List.length_take];rfl)) ?_;(with_reducible refine (laws_szSource.calls _ _ l0_0 a0_1 a0_2 a0_3 1048576 t815 _ ?side1 ?side2 A3.out).mono ?_);(case side1=> repeat (first|exact (Kd.C_below HR0_0.out HB.out)|(with_reducible refine Kd.C_alloc ?_ _)|(with_reducible refine Kd.C_drewN ?_ _)|(with_reducible refine Kd.C_drew ?_)));(case side2=> exact HC0_0.out);rintro e w7 ⟨rfl,hb⟩;refine ⟨_,rfl,?_⟩;have n0_:=Aside0.mk (blk_below (g:=gb814) (o:= .cells #[.slice A0_0 l0_0.length c0_0,.int .i64 a0_1,.string a0_2,.int .i64 a0_3] 61 (0,0)) (by (with_reducible repeat (first|apply bN|apply bd|apply bA));exact BK814.out) hb);have n1_:=Aside0.mk (below_step (by repeat (first|(with_reducible first|exact HB.out|apply below_alloc|apply pw_below_drewN|apply below_drew1|refine below_set ?_ GE814.out)|exact HB.out)) hb);clear BK814;clear HB;have BK814:=n0_;have HB:=n1_;clear n0_ n1_;(try clear hb);(try clear hb2);(try clear hk);(try clear hi)))
    go_ret
    exact ⟨by first|rfl|(simp [errW_none,errW_some] <;> rfl)|(simp [*,errW_none,errW_some] <;> rfl),by repeat (first|(with_reducible first|exact HB.out|apply below_alloc|apply pw_below_drewN|apply below_drew1|refine below_set ?_ GE814.out)|exact HB.out)⟩
  · rw [if_neg c4] at H
    have c4b0:decide (t815 < 0)=false:=decide_eq_false c4
    clear c4
    replace H:=Option.bind_eq_some_iff.mp H
    obtain ⟨⟨t816,t819,t820,t821⟩,A80,H⟩:=H
    replace H:((spec_TakeSome.f k t816 t819 t820 t821 a1).bind fun bt822=> ((laws_toSource.f k l0_0 a0_1 a0_2 a0_3).bind fun bt833=> ((impl_TakeSome.f bt833.1 bt833.2.1 bt833.2.2.1 bt833.2.2.2 a1).bind fun bt840=> ((laws_eqSource.f k bt840.1 bt840.2.1 bt840.2.2.1 bt840.2.2.2.1 bt822.1 bt822.2.1 bt822.2.2.1 bt822.2.2.2.1).bind fun t851=> (if t851=true then ((laws_eqExtS.f k bt840.2.2.2.2.1 bt822.2.2.2.2.1).bind fun t852=> (if t852=true then (laws_FnExactTakeSome.j0 k a1 bt822.2.2.2.2.1 bt822.2.2.2.2.2 bt840.2.2.2.2.1 bt840.2.2.2.2.2 (bt840.2.2.2.2.2 !=bt822.2.2.2.2.2) l0_0 a0_1 a0_2 a0_3 bt822.1 bt822.2.1 bt822.2.2.1 bt822.2.2.2.1 bt833.1 bt833.2.1 bt833.2.2.1 bt833.2.2.2 bt840.1 bt840.2.1 bt840.2.2.1 bt840.2.2.2.1) else (none))) else (none))))))=some r:=H
    have A8:=Aside0.mk A80
    clear A80
    replace H:=Option.bind_eq_some_iff.mp H
    obtain ⟨⟨t822,t825,t826,t827,t828,t831⟩,A90,H⟩:=H
    replace H:((laws_toSource.f k l0_0 a0_1 a0_2 a0_3).bind fun bt833=> ((impl_TakeSome.f bt833.1 bt833.2.1 bt833.2.2.1 bt833.2.2.2 a1).bind fun bt840=> ((laws_eqSource.f k bt840.1 bt840.2.1 bt840.2.2.1 bt840.2.2.2.1 t822 t825 t826 t827).bind fun t851=> (if t851=true then ((laws_eqExtS.f k bt840.2.2.2.2.1 t828).bind fun t852=> (if t852=true then (laws_FnExactTakeSome.j0 k a1 t828 t831 bt840.2.2.2.2.1 bt840.2.2.2.2.2 (bt840.2.2.2.2.2 !=t831) l0_0 a0_1 a0_2 a0_3 t822 t825 t826 t827 bt833.1 bt833.2.1 bt833.2.2.1 bt833.2.2.2 bt840.1 bt840.2.1 bt840.2.2.1 bt840.2.2.2.1) else (none))) else (none)))))=some r:=H
    have A9:=Aside0.mk A90
    clear A90
    replace H:=Option.bind_eq_some_iff.mp H
    obtain ⟨⟨t833,t836,t837,t838⟩,A100,H⟩:=H
    replace H:((impl_TakeSome.f t833 t836 t837 t838 a1).bind fun bt840=> ((laws_eqSource.f k bt840.1 bt840.2.1 bt840.2.2.1 bt840.2.2.2.1 t822 t825 t826 t827).bind fun t851=> (if t851=true then ((laws_eqExtS.f k bt840.2.2.2.2.1 t828).bind fun t852=> (if t852=true then (laws_FnExactTakeSome.j0 k a1 t828 t831 bt840.2.2.2.2.1 bt840.2.2.2.2.2 (bt840.2.2.2.2.2 !=t831) l0_0 a0_1 a0_2 a0_3 t822 t825 t826 t827 t833 t836 t837 t838 bt840.1 bt840.2.1 bt840.2.2.1 bt840.2.2.2.1) else (none))) else (none))))=some r:=H
    have A10:=Aside0.mk A100
    clear A100
    replace H:=Option.bind_eq_some_iff.mp H
    obtain ⟨⟨t840,t843,t844,t845,t846,t849⟩,A110,H⟩:=H
    replace H:((laws_eqSource.f k t840 t843 t844 t845 t822 t825 t826 t827).bind fun t851=> (if t851=true then ((laws_eqExtS.f k t846 t828).bind fun t852=> (if t852=true then (laws_FnExactTakeSome.j0 k a1 t828 t831 t846 t849 (t849 !=t831) l0_0 a0_1 a0_2 a0_3 t822 t825 t826 t827 t833 t836 t837 t838 t840 t843 t844 t845) else (none))) else (none)))=some r:=H
    have A11:=Aside0.mk A110
    clear A110
    have HC12:=Aside0.mk H
    clear H
    go_enter Try.func19,Try.ntmps19
    go_upto_region 8 with (first|((with_reducible refine gate_dst (N:=2) rfl ?_);refine box_event ?hg (N:=2) ?hd (cs:= #[.slice A0_0 l0_0.length c0_0,.int .i64 a0_1,.string a0_2,.int .i64 a0_3]) (t:=61) ?hr ?_;(case hd=> rfl);(case hg=> rfl);(case hr=> first|(go_simp;done)|(go_simp;rfl));intro gb814 hg w13 hbox hb;have n0_:=Aside0.mk (below_step (by repeat (first|(with_reducible first|exact HB.out|apply below_alloc|apply pw_below_drewN|apply below_drew1)|exact HB.out)) hb);have n1_:=Aside0.mk (hbox);have n2_:=Aside0.mk ((by rw [hg];exact (below_size (by repeat (first|(with_reducible first|exact HB.out|apply below_alloc|apply pw_below_drewN|apply below_drew1)|exact HB.out))):w.heap.size ≤ gb814));have n3_:=Aside0.mk ((by rw [hg];exact (below_size (by repeat (first|(with_reducible first|exact HB.out|apply below_alloc|apply pw_below_drewN|apply below_drew1)|exact HB.out))):w.heap.size ≤ gb814));clear HB;have HB:=n0_;have BK814:=n1_;have GW814:=n2_;have GE814:=n3_;clear n0_ n1_ n2_ n3_;clear hb hbox hg;have hcz14_0:w13.cell? ⟨gb814,0,none⟩=some (.slice A0_0 l0_0.length c0_0):=(blk_cell BK814.out 0).trans rfl;have hcz14_1:w13.cell? ⟨gb814,1,none⟩=some (.int .i64 a0_1):=(blk_cell BK814.out 1).trans rfl;have hcz14_2:w13.cell? ⟨gb814,2,none⟩=some (.string a0_2):=(blk_cell BK814.out 2).trans rfl;have hcz14_3:w13.cell? ⟨gb814,3,none⟩=some (.int .i64 a0_3):=(blk_cell BK814.out 3).trans rfl;have hfz14_0:=blk_frozen BK814.out 0;have hfz14_1:=blk_frozen BK814.out 1;have hfz14_2:=blk_frozen BK814.out 2;have hfz14_3:=blk_frozen BK814.out 3)|((with_reducible refine gate_callee (f:=53) rfl ?_);refine goesL_ (some 21) rfl rfl Try.func53 (by kernel_rfl) rfl #[.agg #[.slice A0_0 l0_0.length c0_0,.int .i64 a0_1,.string a0_2,.int .i64 a0_3],.int .i64 1048576] rfl (by (try simp only [List.map_toArray,List.map_cons,List.map_nil]);first|done|rfl|(simp only [List.length_drop,List.length_take];rfl)) ?_;(with_reducible refine (laws_szSource.calls _ _ l0_0 a0_1 a0_2 a0_3 1048576 t815 _ ?side1 ?side2 A3.out).mono ?_);(case side1=> repeat (first|exact (Kd.C_below HR0_0.out HB.out)|(with_reducible refine Kd.C_alloc ?_ _)|(with_reducible refine Kd.C_drewN ?_ _)|(with_reducible refine Kd.C_drew ?_)));(case side2=> exact HC0_0.out);rintro e w15 ⟨rfl,hb⟩;refine ⟨_,rfl,?_⟩;have n0_:=Aside0.mk (blk_below (g:=gb814) (o:= .cells #[.slice A0_0 l0_0.length c0_0,.int .i64 a0_1,.string a0_2,.int .i64 a0_3] 61 (0,0)) (by (with_reducible repeat (first|apply bN|apply bd|apply bA));exact BK814.out) hb);have n1_:=Aside0.mk (below_step (by repeat (first|(with_reducible first|exact HB.out|apply below_alloc|apply pw_below_drewN|apply below_drew1|refine below_set ?_ GE814.out)|exact HB.out)) hb);clear BK814;clear HB;have BK814:=n0_;have HB:=n1_;clear n0_ n1_;(try clear hb);(try clear hb2);(try clear hk);(try clear hi);have hcz16_0:w15.cell? ⟨gb814,0,none⟩=some (.slice A0_0 l0_0.length c0_0):=(blk_cell BK814.out 0).trans rfl;have hcz16_1:w15.cell? ⟨gb814,1,none⟩=some (.int .i64 a0_1):=(blk_cell BK814.out 1).trans rfl;have hcz16_2:w15.cell? ⟨gb814,2,none⟩=some (.string a0_2):=(blk_cell BK814.out 2).trans rfl;have hcz16_3:w15.cell? ⟨gb814,3,none⟩=some (.int .i64 a0_3):=(blk_cell BK814.out 3).trans rfl;have hfz16_0:=blk_frozen BK814.out 0;have hfz16_1:=blk_frozen BK814.out 1;have hfz16_2:=blk_frozen BK814.out 2;have hfz16_3:=blk_frozen BK814.out 3)|((with_reducible refine gate_callee (f:=55) rfl ?_);refine goesL_ (some 26) rfl rfl Try.func55 (by kernel_rfl) rfl #[.agg #[.slice A0_0 l0_0.length c0_0,.int .i64 a0_1,.string a0_2,.int .i64 a0_3]] rfl (by (try simp only [List.map_toArray,List.map_cons,List.map_nil]);first|done|rfl|(simp only [List.length_drop,List.length_take];rfl)) ?_;(with_reducible refine (laws_toSource.calls k _ _ l0_0 a0_1 a0_2 a0_3 t816 t819 t820 t821 _ ?side1 ?side2 A8.out).mono ?_);(case side1=> repeat (first|exact (Kd.C_below HR0_0.out HB.out)|(with_reducible refine Kd.C_alloc ?_ _)|(with_reducible refine Kd.C_drewN ?_ _)|(with_reducible refine Kd.C_drew ?_)));(case side2=> exact HC0_0.out);rintro e w17 ⟨v817,rfl,ho0,hb⟩;refine ⟨_,rfl,?_⟩;have n0_:=Aside0.mk (Kd.R_lower ho0 (below_size (by repeat (first|(with_reducible first|exact HB.out|apply below_alloc|apply pw_below_drewN|apply below_drew1|refine below_set ?_ GE814.out)|exact HB.out))));have n1_:=Aside0.mk (blk_below (g:=gb814) (o:= .cells #[.slice A0_0 l0_0.length c0_0,.int .i64 a0_1,.string a0_2,.int .i64 a0_3] 61 (0,0)) (by (with_reducible repeat (first|apply bN|apply bd|apply bA));exact BK814.out) hb);have n2_:=Aside0.mk (below_step (by repeat (first|(with_reducible first|exact HB.out|apply below_alloc|apply pw_below_drewN|apply below_drew1|refine below_set ?_ GE814.out)|exact HB.out)) hb);clear BK814;clear HB;have HO818:=n0_;have BK814:=n1_;have HB:=n2_;clear n0_ n1_ n2_;(try clear hb);(try clear hb2);(try clear hk);(try clear hi);(try clear ho0);obtain ⟨Ao18,co18,eo18⟩:=Kd.R_slice HO818.out;subst eo18)|((with_reducible refine gate_callee (f:=72) rfl ?_);refine goesL_ (some 28) rfl rfl Try.func72 (by kernel_rfl) rfl #[.agg #[.slice Ao18 t816.length co18,.int .i64 t819,.string t820,.int .i64 t821],.int .i64 a1] rfl (by (try simp only [List.map_toArray,List.map_cons,List.map_nil]);first|done|rfl|(simp only [List.length_drop,List.length_take];rfl)) ?_;(with_reducible refine (spec_TakeSome.calls k (fun k_=> some k_=(.slice Ao18 t816.length co18:Value).ownBlock) (.slice Ao18 t816.length co18) t816 t819 t820 t821 a1 t822 t825 t826 t827 t828 t831 w _ ?side1 ?side2 A9.out).mono ?_);(case side1=> repeat (first|(with_reducible first|exact HB.out|apply below_alloc|apply pw_below_drewN|apply below_drew1|refine below_set ?_ GE814.out)|exact HB.out));(case side2=> exact Kd.R_tight rfl HO818.out);rintro e w19 ⟨v823,v829,rfl,ho0,ho1,hb,hkp⟩;refine ⟨_,rfl,?_⟩;have n0_:=Aside0.mk (blk_kept (by (with_reducible repeat (first|apply bN|apply bd|apply bA));exact BK814.out) hkp (fun hs_=> (fun e_=> (Kd.R_ne HO818.out BK814.out (by decide)) e_) hs_));have n1_:=Aside0.mk (Kd.R_mono (ok':=fun k_=> some k_ ≠ (v829:Value).ownBlock) ho0 (fun k_ hk_=> hk_.2));have n2_:=Aside0.mk (Kd.R_mono (ok':=fun k_=> some k_ ≠ (v823:Value).ownBlock) ho1 (fun k_ hk_=> hk_.2));have n3_:=Aside0.mk (hb);clear BK814;clear HB;clear HO818;have BK814:=n0_;have HO824:=n1_;have HO830:=n2_;have HB:=n3_;clear n0_ n1_ n2_ n3_;(try clear hb);(try clear hkp);(try clear ho0);(try clear ho1))|((with_reducible refine gate_dst (N:=6) rfl ?_);refine box_event ?hg (N:=6) ?hd (cs:= #[.slice none 0 0,.int .i64 0,.string (⟨#[]⟩:ByteArray),.int .i64 0]) (t:=36) ?hr ?_;(case hd=> rfl);(case hg=> rfl);(case hr=> first|(go_simp;done)|(go_simp;rfl));intro gb832 hg w20 hbox hb;have n0_:=Aside0.mk (Kd.R_below (by (with_reducible repeat (first|apply Kd.R_alloc|apply Kd.R_drewN|apply Kd.R_drew));exact HO824.out) hb);have n1_:=Aside0.mk (Kd.R_below (by (with_reducible repeat (first|apply Kd.R_alloc|apply Kd.R_drewN|apply Kd.R_drew));exact HO830.out) hb);have n2_:=Aside0.mk (blk_below (g:=gb814) (o:= .cells #[.slice A0_0 l0_0.length c0_0,.int .i64 a0_1,.string a0_2,.int .i64 a0_3] 61 (0,0)) (by (with_reducible repeat (first|apply bN|apply bd|apply bA));exact BK814.out) hb);have n3_:=Aside0.mk (below_step (by repeat (first|(with_reducible first|exact HB.out|apply below_alloc|apply pw_below_drewN|apply below_drew1|refine below_set ?_ GE814.out)|exact HB.out)) hb);have n4_:=Aside0.mk (hbox);have n5_:=Aside0.mk ((by rw [hg];exact (below_size (by repeat (first|(with_reducible first|exact HB.out|apply below_alloc|apply pw_below_drewN|apply below_drew1|refine below_set ?_ GE814.out)|exact HB.out))):w.heap.size ≤ gb832));have n6_:=Aside0.mk ((by rw [hg];exact (below_size (by repeat (first|(with_reducible first|exact HB.out|apply below_alloc|apply pw_below_drewN|apply below_drew1|refine below_set ?_ GE814.out)|exact HB.out))):w.heap.size ≤ gb832));have n7_:=Aside0.mk ((by rw [hg];exact Nat.ne_of_lt (blk_lt (g:=gb814) (o:= .cells #[.slice A0_0 l0_0.length c0_0,.int .i64 a0_1,.string a0_2,.int .i64 a0_3] 61 (0,0)) (by (with_reducible repeat (first|apply bN|apply bd|apply bA));exact BK814.out)):gb814 ≠ gb832));have n8_:=Aside0.mk ((by rw [hg];exact Nat.ne_of_gt (blk_lt (g:=gb814) (o:= .cells #[.slice A0_0 l0_0.length c0_0,.int .i64 a0_1,.string a0_2,.int .i64 a0_3] 61 (0,0)) (by (with_reducible repeat (first|apply bN|apply bd|apply bA));exact BK814.out)):gb832 ≠ gb814));clear HO824;clear HO830;clear BK814;clear HB;have HO824:=n0_;have HO830:=n1_;have BK814:=n2_;have HB:=n3_;have BK832:=n4_;have GW832:=n5_;have GE832:=n6_;have NB814_832:=n7_;have NB832_814:=n8_;clear n0_ n1_ n2_ n3_ n4_ n5_ n6_ n7_ n8_;clear hb hbox hg;obtain ⟨Ao21,co21,eo21⟩:=Kd.R_slice HO824.out;subst eo21;have hnb22:=NB832_814.out;have hnc22:=NB814_832.out;have hcz23_0:w20.cell? ⟨gb832,0,none⟩=some (.slice none 0 0):=(blk_cell BK832.out 0).trans rfl;have hcz23_1:w20.cell? ⟨gb832,1,none⟩=some (.int .i64 0):=(blk_cell BK832.out 1).trans rfl;have hcz23_2:w20.cell? ⟨gb832,2,none⟩=some (.string (⟨#[]⟩:ByteArray)):=(blk_cell BK832.out 2).trans rfl;have hcz23_3:w20.cell? ⟨gb832,3,none⟩=some (.int .i64 0):=(blk_cell BK832.out 3).trans rfl;have hfz23_0:=blk_frozen BK832.out 0;have hfz23_1:=blk_frozen BK832.out 1;have hfz23_2:=blk_frozen BK832.out 2;have hfz23_3:=blk_frozen BK832.out 3;have hcz24_0:w20.cell? ⟨gb814,0,none⟩=some (.slice A0_0 l0_0.length c0_0):=(blk_cell BK814.out 0).trans rfl;have hcz24_1:w20.cell? ⟨gb814,1,none⟩=some (.int .i64 a0_1):=(blk_cell BK814.out 1).trans rfl;have hcz24_2:w20.cell? ⟨gb814,2,none⟩=some (.string a0_2):=(blk_cell BK814.out 2).trans rfl;have hcz24_3:w20.cell? ⟨gb814,3,none⟩=some (.int .i64 a0_3):=(blk_cell BK814.out 3).trans rfl;have hfz24_0:=blk_frozen BK814.out 0;have hfz24_1:=blk_frozen BK814.out 1;have hfz24_2:=blk_frozen BK814.out 2;have hfz24_3:=blk_frozen BK814.out 3)|((with_reducible refine gate_callee (f:=55) rfl ?_);refine goesL_ (some 33) rfl rfl Try.func55 (by kernel_rfl) rfl #[.agg #[.slice A0_0 l0_0.length c0_0,.int .i64 a0_1,.string a0_2,.int .i64 a0_3]] rfl (by (try simp only [List.map_toArray,List.map_cons,List.map_nil]);first|done|rfl|(simp only [List.length_drop,List.length_take];rfl)) ?_;(with_reducible refine (laws_toSource.calls k _ _ l0_0 a0_1 a0_2 a0_3 t833 t836 t837 t838 _ ?side1 ?side2 A10.out).mono ?_);(case side1=> exact Kd.C_below HR0_0.out (by repeat (first|(with_reducible first|exact HB.out|apply below_alloc|apply pw_below_drewN|apply below_drew1|refine below_set ?_ GE814.out|refine below_set ?_ GE832.out)|exact HB.out)));(case side2=> exact HC0_0.out);rintro e w25 ⟨v834,rfl,ho0,hb⟩;refine ⟨_,rfl,?_⟩;have n0_:=Aside0.mk (Kd.R_elder' (by (with_reducible repeat (first|apply Kd.R_alloc|apply Kd.R_drewN|apply Kd.R_drew));exact (Kd.R_mono (Kd.R_far (p:=⟨gb832,3,none⟩) (Kd.R_far (p:=⟨gb832,2,none⟩) (Kd.R_far (p:=⟨gb832,1,none⟩) (Kd.R_far (p:=⟨gb832,0,none⟩) (Kd.R_types HO824.out BK832.out (by decide)) (fun _ hk=> hk.2) (.slice Ao21 t822.length co21)) (fun _ hk=> hk.2) (.int .i64 t825)) (fun _ hk=> hk.2) (.string t826)) (fun _ hk=> hk.2) (.int .i64 t827)) (fun _ h_=> h_.1))) (Kd.R_base ho0) hb);have n1_:=Aside0.mk (Kd.R_elder' (by (with_reducible repeat (first|apply Kd.R_alloc|apply Kd.R_drewN|apply Kd.R_drew));exact (Kd.R_mono (Kd.R_far (p:=⟨gb832,3,none⟩) (Kd.R_far (p:=⟨gb832,2,none⟩) (Kd.R_far (p:=⟨gb832,1,none⟩) (Kd.R_far (p:=⟨gb832,0,none⟩) (Kd.R_types HO830.out BK832.out (by decide)) (fun _ hk=> hk.2) (.slice Ao21 t822.length co21)) (fun _ hk=> hk.2) (.int .i64 t825)) (fun _ hk=> hk.2) (.string t826)) (fun _ hk=> hk.2) (.int .i64 t827)) (fun _ h_=> h_.1))) (Kd.R_base ho0) hb);have n2_:=Aside0.mk (Kd.R_lower (Kd.R_new' (Kd.R_new' ho0 (Kd.R_lt (by (with_reducible repeat (first|apply Kd.R_alloc|apply Kd.R_drewN|apply Kd.R_drew));exact (Kd.R_mono (Kd.R_far (p:=⟨gb832,3,none⟩) (Kd.R_far (p:=⟨gb832,2,none⟩) (Kd.R_far (p:=⟨gb832,1,none⟩) (Kd.R_far (p:=⟨gb832,0,none⟩) (Kd.R_types HO824.out BK832.out (by decide)) (fun _ hk=> hk.2) (.slice Ao21 t822.length co21)) (fun _ hk=> hk.2) (.int .i64 t825)) (fun _ hk=> hk.2) (.string t826)) (fun _ hk=> hk.2) (.int .i64 t827)) (fun _ h_=> h_.1))))) (Kd.R_lt (by (with_reducible repeat (first|apply Kd.R_alloc|apply Kd.R_drewN|apply Kd.R_drew));exact (Kd.R_mono (Kd.R_far (p:=⟨gb832,3,none⟩) (Kd.R_far (p:=⟨gb832,2,none⟩) (Kd.R_far (p:=⟨gb832,1,none⟩) (Kd.R_far (p:=⟨gb832,0,none⟩) (Kd.R_types HO830.out BK832.out (by decide)) (fun _ hk=> hk.2) (.slice Ao21 t822.length co21)) (fun _ hk=> hk.2) (.int .i64 t825)) (fun _ hk=> hk.2) (.string t826)) (fun _ hk=> hk.2) (.int .i64 t827)) (fun _ h_=> h_.1))))) (below_size (by repeat (first|(with_reducible first|exact HB.out|apply below_alloc|apply pw_below_drewN|apply below_drew1|refine below_set ?_ GE814.out|refine below_set ?_ GE832.out)|exact HB.out))));have n3_:=Aside0.mk (blk_below (g:=gb814) (o:= .cells #[.slice A0_0 l0_0.length c0_0,.int .i64 a0_1,.string a0_2,.int .i64 a0_3] 61 (0,0)) (by (with_reducible repeat (first|apply bN|apply bd|apply bA));refine blk_far ?_ NB814_832.out _;(with_reducible repeat (first|apply bN|apply bd|apply bA));refine blk_far ?_ NB814_832.out _;(with_reducible repeat (first|apply bN|apply bd|apply bA));refine blk_far ?_ NB814_832.out _;(with_reducible repeat (first|apply bN|apply bd|apply bA));refine blk_far ?_ NB814_832.out _;(with_reducible repeat (first|apply bN|apply bd|apply bA));exact BK814.out) hb);have n4_:=Aside0.mk (blk_below (g:=gb832) (o:= .cells #[.slice Ao21 t822.length co21,.int .i64 t825,.string t826,.int .i64 t827] 36 (0,0)) (by (with_reducible repeat (first|apply bN|apply bd|apply bA));refine blk_put (cs:= #[.slice Ao21 t822.length co21,.int .i64 t825,.string t826,.int .i64 0]) ?_ 3 _ rfl;(with_reducible repeat (first|apply bN|apply bd|apply bA));refine blk_put (cs:= #[.slice Ao21 t822.length co21,.int .i64 t825,.string (⟨#[]⟩:ByteArray),.int .i64 0]) ?_ 2 _ rfl;(with_reducible repeat (first|apply bN|apply bd|apply bA));refine blk_put (cs:= #[.slice Ao21 t822.length co21,.int .i64 0,.string (⟨#[]⟩:ByteArray),.int .i64 0]) ?_ 1 _ rfl;(with_reducible repeat (first|apply bN|apply bd|apply bA));refine blk_put (cs:= #[.slice none 0 0,.int .i64 0,.string (⟨#[]⟩:ByteArray),.int .i64 0]) ?_ 0 _ rfl;(with_reducible repeat (first|apply bN|apply bd|apply bA));exact BK832.out) hb);have n5_:=Aside0.mk (below_step (by repeat (first|(with_reducible first|exact HB.out|apply below_alloc|apply pw_below_drewN|apply below_drew1|refine below_set ?_ GE814.out|refine below_set ?_ GE832.out)|exact HB.out)) hb);clear HO824;clear HO830;clear BK814;clear BK832;clear HB;have HO824:=n0_;have HO830:=n1_;have HO835:=n2_;have BK814:=n3_;have BK832:=n4_;have HB:=n5_;clear n0_ n1_ n2_ n3_ n4_ n5_;(try clear hb);(try clear hb2);(try clear hk);(try clear hi);(try clear ho0))|((with_reducible refine gate_dst (N:=9) rfl ?_);refine box_event ?hg (N:=9) ?hd (cs:= #[.slice none 0 0,.int .i64 0,.string (⟨#[]⟩:ByteArray),.int .i64 0]) (t:=36) ?hr ?_;(case hd=> rfl);(case hg=> rfl);(case hr=> first|(go_simp;done)|(go_simp;rfl));intro gb839 hg w26 hbox hb;have n0_:=Aside0.mk (Kd.R_below (by (with_reducible repeat (first|apply Kd.R_alloc|apply Kd.R_drewN|apply Kd.R_drew));exact HO824.out) hb);have n1_:=Aside0.mk (Kd.R_below (by (with_reducible repeat (first|apply Kd.R_alloc|apply Kd.R_drewN|apply Kd.R_drew));exact HO830.out) hb);have n2_:=Aside0.mk (Kd.R_below (by (with_reducible repeat (first|apply Kd.R_alloc|apply Kd.R_drewN|apply Kd.R_drew));exact HO835.out) hb);have n3_:=Aside0.mk (blk_below (g:=gb814) (o:= .cells #[.slice A0_0 l0_0.length c0_0,.int .i64 a0_1,.string a0_2,.int .i64 a0_3] 61 (0,0)) (by (with_reducible repeat (first|apply bN|apply bd|apply bA));exact BK814.out) hb);have n4_:=Aside0.mk (blk_below (g:=gb832) (o:= .cells #[.slice Ao21 t822.length co21,.int .i64 t825,.string t826,.int .i64 t827] 36 (0,0)) (by (with_reducible repeat (first|apply bN|apply bd|apply bA));exact BK832.out) hb);have n5_:=Aside0.mk (below_step (by repeat (first|(with_reducible first|exact HB.out|apply below_alloc|apply pw_below_drewN|apply below_drew1|refine below_set ?_ GE814.out|refine below_set ?_ GE832.out)|exact HB.out)) hb);have n6_:=Aside0.mk (hbox);have n7_:=Aside0.mk ((by rw [hg];exact (below_size (by repeat (first|(with_reducible first|exact HB.out|apply below_alloc|apply pw_below_drewN|apply below_drew1|refine below_set ?_ GE814.out|refine below_set ?_ GE832.out)|exact HB.out))):w.heap.size ≤ gb839));have n8_:=Aside0.mk ((by rw [hg];exact (below_size (by repeat (first|(with_reducible first|exact HB.out|apply below_alloc|apply pw_below_drewN|apply below_drew1|refine below_set ?_ GE814.out|refine below_set ?_ GE832.out)|exact HB.out))):w.heap.size ≤ gb839));have n9_:=Aside0.mk ((by rw [hg];exact Nat.ne_of_lt (blk_lt (g:=gb814) (o:= .cells #[.slice A0_0 l0_0.length c0_0,.int .i64 a0_1,.string a0_2,.int .i64 a0_3] 61 (0,0)) (by (with_reducible repeat (first|apply bN|apply bd|apply bA));exact BK814.out)):gb814 ≠ gb839));have n10_:=Aside0.mk ((by rw [hg];exact Nat.ne_of_gt (blk_lt (g:=gb814) (o:= .cells #[.slice A0_0 l0_0.length c0_0,.int .i64 a0_1,.string a0_2,.int .i64 a0_3] 61 (0,0)) (by (with_reducible repeat (first|apply bN|apply bd|apply bA));exact BK814.out)):gb839 ≠ gb814));have n11_:=Aside0.mk ((by rw [hg];exact Nat.ne_of_lt (blk_lt (g:=gb832) (o:= .cells #[.slice Ao21 t822.length co21,.int .i64 t825,.string t826,.int .i64 t827] 36 (0,0)) (by (with_reducible repeat (first|apply bN|apply bd|apply bA));exact BK832.out)):gb832 ≠ gb839));have n12_:=Aside0.mk ((by rw [hg];exact Nat.ne_of_gt (blk_lt (g:=gb832) (o:= .cells #[.slice Ao21 t822.length co21,.int .i64 t825,.string t826,.int .i64 t827] 36 (0,0)) (by (with_reducible repeat (first|apply bN|apply bd|apply bA));exact BK832.out)):gb839 ≠ gb832));clear HO824;clear HO830;clear HO835;clear BK814;clear BK832;clear HB;have HO824:=n0_;have HO830:=n1_;have HO835:=n2_;have BK814:=n3_;have BK832:=n4_;have HB:=n5_;have BK839:=n6_;have GW839:=n7_;have GE839:=n8_;have NB814_839:=n9_;have NB839_814:=n10_;have NB832_839:=n11_;have NB839_832:=n12_;clear n0_ n1_ n2_ n3_ n4_ n5_ n6_ n7_ n8_ n9_ n10_ n11_ n12_;clear hb hbox hg;obtain ⟨Ao27,co27,eo27⟩:=Kd.R_slice HO835.out;subst eo27;have hnb28:=NB839_814.out;have hnc28:=NB814_839.out;have hnb29:=NB839_832.out;have hnc29:=NB832_839.out;have hcz30_0:w26.cell? ⟨gb839,0,none⟩=some (.slice none 0 0):=(blk_cell BK839.out 0).trans rfl;have hcz30_1:w26.cell? ⟨gb839,1,none⟩=some (.int .i64 0):=(blk_cell BK839.out 1).trans rfl;have hcz30_2:w26.cell? ⟨gb839,2,none⟩=some (.string (⟨#[]⟩:ByteArray)):=(blk_cell BK839.out 2).trans rfl;have hcz30_3:w26.cell? ⟨gb839,3,none⟩=some (.int .i64 0):=(blk_cell BK839.out 3).trans rfl;have hfz30_0:=blk_frozen BK839.out 0;have hfz30_1:=blk_frozen BK839.out 1;have hfz30_2:=blk_frozen BK839.out 2;have hfz30_3:=blk_frozen BK839.out 3)|((with_reducible refine gate_callee (f:=73) rfl ?_);refine goesL_ (some 37) rfl rfl Try.func73 (by kernel_rfl) rfl #[.agg #[.slice Ao27 t833.length co27,.int .i64 t836,.string t837,.int .i64 t838],.int .i64 a1] rfl (by (try simp only [List.map_toArray,List.map_cons,List.map_nil]);first|done|rfl|(simp only [List.length_drop,List.length_take];rfl)) ?_;(with_reducible refine (impl_TakeSome.calls _ _ t833 t836 t837 t838 a1 t840 t843 t844 t845 t846 t849 _ ?side1 ?side2 A11.out).mono ?_);(case side1=> refine (Kd.R_reads' (e:=79) (base:=w.heap.size) (ok:=fun k_=> ((True ∧ some k_ ≠ (.slice Ao21 t822.length co21:Value).ownBlock) ∧ some k_ ≠ (v829:Value).ownBlock)) (n:=t833.length) (c:=co27) ?_).2.2;exact (by (with_reducible repeat (first|apply Kd.R_alloc|apply Kd.R_drewN|apply Kd.R_drew));exact (Kd.R_mono (Kd.R_far (p:=⟨gb839,3,none⟩) (Kd.R_far (p:=⟨gb839,2,none⟩) (Kd.R_far (p:=⟨gb839,1,none⟩) (Kd.R_far (p:=⟨gb839,0,none⟩) (Kd.R_types HO835.out BK839.out (by decide)) (fun _ hk=> hk.2) (.slice Ao27 t833.length co27)) (fun _ hk=> hk.2) (.int .i64 t836)) (fun _ hk=> hk.2) (.string t837)) (fun _ hk=> hk.2) (.int .i64 t838)) (fun _ h_=> h_.1))));(case side2=> exact (Kd.R_reads' HO835.out).2.1);rintro e w31 ⟨v841,v847,rfl,ho0,ho1,hb⟩;refine ⟨_,rfl,?_⟩;have n0_:=Aside0.mk (Kd.R_mono (Kd.R_told (Kd.R_told (Kd.R_old (by (with_reducible repeat (first|apply Kd.R_alloc|apply Kd.R_drewN|apply Kd.R_drew));exact (Kd.R_mono (Kd.R_far (p:=⟨gb839,3,none⟩) (Kd.R_far (p:=⟨gb839,2,none⟩) (Kd.R_far (p:=⟨gb839,1,none⟩) (Kd.R_far (p:=⟨gb839,0,none⟩) (Kd.R_types HO824.out BK839.out (by decide)) (fun _ hk=> hk.2) (.slice Ao27 t833.length co27)) (fun _ hk=> hk.2) (.int .i64 t836)) (fun _ hk=> hk.2) (.string t837)) (fun _ hk=> hk.2) (.int .i64 t838)) (fun _ h_=> h_.1))) hb) (Kd.R_base ho0)) (Kd.R_base ho1)) (fun _ h_=> h_.1));have n1_:=Aside0.mk (Kd.R_mono (Kd.R_told (Kd.R_told (Kd.R_old (by (with_reducible repeat (first|apply Kd.R_alloc|apply Kd.R_drewN|apply Kd.R_drew));exact (Kd.R_mono (Kd.R_far (p:=⟨gb839,3,none⟩) (Kd.R_far (p:=⟨gb839,2,none⟩) (Kd.R_far (p:=⟨gb839,1,none⟩) (Kd.R_far (p:=⟨gb839,0,none⟩) (Kd.R_types HO830.out BK839.out (by decide)) (fun _ hk=> hk.2) (.slice Ao27 t833.length co27)) (fun _ hk=> hk.2) (.int .i64 t836)) (fun _ hk=> hk.2) (.string t837)) (fun _ hk=> hk.2) (.int .i64 t838)) (fun _ h_=> h_.1))) hb) (Kd.R_base ho0)) (Kd.R_base ho1)) (fun _ h_=> h_.1));have n2_:=Aside0.mk (Kd.R_mono (Kd.R_told (Kd.R_told (Kd.R_old (by (with_reducible repeat (first|apply Kd.R_alloc|apply Kd.R_drewN|apply Kd.R_drew));exact (Kd.R_mono (Kd.R_far (p:=⟨gb839,3,none⟩) (Kd.R_far (p:=⟨gb839,2,none⟩) (Kd.R_far (p:=⟨gb839,1,none⟩) (Kd.R_far (p:=⟨gb839,0,none⟩) (Kd.R_types HO835.out BK839.out (by decide)) (fun _ hk=> hk.2) (.slice Ao27 t833.length co27)) (fun _ hk=> hk.2) (.int .i64 t836)) (fun _ hk=> hk.2) (.string t837)) (fun _ hk=> hk.2) (.int .i64 t838)) (fun _ h_=> h_.1))) hb) (Kd.R_base ho0)) (Kd.R_base ho1)) (fun _ h_=> h_.1));have n3_:=Aside0.mk (Kd.R_lower (Kd.R_new' (Kd.R_new' (Kd.R_new' ho0 (Kd.R_lt (by (with_reducible repeat (first|apply Kd.R_alloc|apply Kd.R_drewN|apply Kd.R_drew));exact (Kd.R_mono (Kd.R_far (p:=⟨gb839,3,none⟩) (Kd.R_far (p:=⟨gb839,2,none⟩) (Kd.R_far (p:=⟨gb839,1,none⟩) (Kd.R_far (p:=⟨gb839,0,none⟩) (Kd.R_types HO824.out BK839.out (by decide)) (fun _ hk=> hk.2) (.slice Ao27 t833.length co27)) (fun _ hk=> hk.2) (.int .i64 t836)) (fun _ hk=> hk.2) (.string t837)) (fun _ hk=> hk.2) (.int .i64 t838)) (fun _ h_=> h_.1))))) (Kd.R_lt (by (with_reducible repeat (first|apply Kd.R_alloc|apply Kd.R_drewN|apply Kd.R_drew));exact (Kd.R_mono (Kd.R_far (p:=⟨gb839,3,none⟩) (Kd.R_far (p:=⟨gb839,2,none⟩) (Kd.R_far (p:=⟨gb839,1,none⟩) (Kd.R_far (p:=⟨gb839,0,none⟩) (Kd.R_types HO830.out BK839.out (by decide)) (fun _ hk=> hk.2) (.slice Ao27 t833.length co27)) (fun _ hk=> hk.2) (.int .i64 t836)) (fun _ hk=> hk.2) (.string t837)) (fun _ hk=> hk.2) (.int .i64 t838)) (fun _ h_=> h_.1))))) (Kd.R_lt (by (with_reducible repeat (first|apply Kd.R_alloc|apply Kd.R_drewN|apply Kd.R_drew));exact (Kd.R_mono (Kd.R_far (p:=⟨gb839,3,none⟩) (Kd.R_far (p:=⟨gb839,2,none⟩) (Kd.R_far (p:=⟨gb839,1,none⟩) (Kd.R_far (p:=⟨gb839,0,none⟩) (Kd.R_types HO835.out BK839.out (by decide)) (fun _ hk=> hk.2) (.slice Ao27 t833.length co27)) (fun _ hk=> hk.2) (.int .i64 t836)) (fun _ hk=> hk.2) (.string t837)) (fun _ hk=> hk.2) (.int .i64 t838)) (fun _ h_=> h_.1))))) (below_size (by repeat (first|(with_reducible first|exact HB.out|apply below_alloc|apply pw_below_drewN|apply below_drew1|refine below_set ?_ GE814.out|refine below_set ?_ GE832.out|refine below_set ?_ GE839.out)|exact HB.out))));have n4_:=Aside0.mk (Kd.R_lower (Kd.R_new' (Kd.R_new' (Kd.R_new' ho1 (Kd.R_lt (by (with_reducible repeat (first|apply Kd.R_alloc|apply Kd.R_drewN|apply Kd.R_drew));exact (Kd.R_mono (Kd.R_far (p:=⟨gb839,3,none⟩) (Kd.R_far (p:=⟨gb839,2,none⟩) (Kd.R_far (p:=⟨gb839,1,none⟩) (Kd.R_far (p:=⟨gb839,0,none⟩) (Kd.R_types HO824.out BK839.out (by decide)) (fun _ hk=> hk.2) (.slice Ao27 t833.length co27)) (fun _ hk=> hk.2) (.int .i64 t836)) (fun _ hk=> hk.2) (.string t837)) (fun _ hk=> hk.2) (.int .i64 t838)) (fun _ h_=> h_.1))))) (Kd.R_lt (by (with_reducible repeat (first|apply Kd.R_alloc|apply Kd.R_drewN|apply Kd.R_drew));exact (Kd.R_mono (Kd.R_far (p:=⟨gb839,3,none⟩) (Kd.R_far (p:=⟨gb839,2,none⟩) (Kd.R_far (p:=⟨gb839,1,none⟩) (Kd.R_far (p:=⟨gb839,0,none⟩) (Kd.R_types HO830.out BK839.out (by decide)) (fun _ hk=> hk.2) (.slice Ao27 t833.length co27)) (fun _ hk=> hk.2) (.int .i64 t836)) (fun _ hk=> hk.2) (.string t837)) (fun _ hk=> hk.2) (.int .i64 t838)) (fun _ h_=> h_.1))))) (Kd.R_lt (by (with_reducible repeat (first|apply Kd.R_alloc|apply Kd.R_drewN|apply Kd.R_drew));exact (Kd.R_mono (Kd.R_far (p:=⟨gb839,3,none⟩) (Kd.R_far (p:=⟨gb839,2,none⟩) (Kd.R_far (p:=⟨gb839,1,none⟩) (Kd.R_far (p:=⟨gb839,0,none⟩) (Kd.R_types HO835.out BK839.out (by decide)) (fun _ hk=> hk.2) (.slice Ao27 t833.length co27)) (fun _ hk=> hk.2) (.int .i64 t836)) (fun _ hk=> hk.2) (.string t837)) (fun _ hk=> hk.2) (.int .i64 t838)) (fun _ h_=> h_.1))))) (below_size (by repeat (first|(with_reducible first|exact HB.out|apply below_alloc|apply pw_below_drewN|apply below_drew1|refine below_set ?_ GE814.out|refine below_set ?_ GE832.out|refine below_set ?_ GE839.out)|exact HB.out))));have n5_:=Aside0.mk (blk_below (g:=gb814) (o:= .cells #[.slice A0_0 l0_0.length c0_0,.int .i64 a0_1,.string a0_2,.int .i64 a0_3] 61 (0,0)) (by (with_reducible repeat (first|apply bN|apply bd|apply bA));refine blk_far ?_ NB814_839.out _;(with_reducible repeat (first|apply bN|apply bd|apply bA));refine blk_far ?_ NB814_839.out _;(with_reducible repeat (first|apply bN|apply bd|apply bA));refine blk_far ?_ NB814_839.out _;(with_reducible repeat (first|apply bN|apply bd|apply bA));refine blk_far ?_ NB814_839.out _;(with_reducible repeat (first|apply bN|apply bd|apply bA));exact BK814.out) hb);have n6_:=Aside0.mk (blk_below (g:=gb832) (o:= .cells #[.slice Ao21 t822.length co21,.int .i64 t825,.string t826,.int .i64 t827] 36 (0,0)) (by (with_reducible repeat (first|apply bN|apply bd|apply bA));refine blk_far ?_ NB832_839.out _;(with_reducible repeat (first|apply bN|apply bd|apply bA));refine blk_far ?_ NB832_839.out _;(with_reducible repeat (first|apply bN|apply bd|apply bA));refine blk_far ?_ NB832_839.out _;(with_reducible repeat (first|apply bN|apply bd|apply bA));refine blk_far ?_ NB832_839.out _;(with_reducible repeat (first|apply bN|apply bd|apply bA));exact BK832.out) hb);have n7_:=Aside0.mk (blk_below (g:=gb839) (o:= .cells #[.slice Ao27 t833.length co27,.int .i64 t836,.string t837,.int .i64 t838] 36 (0,0)) (by (with_reducible repeat (first|apply bN|apply bd|apply bA));refine blk_put (cs:= #[.slice Ao27 t833.length co27,.int .i64 t836,.string t837,.int .i64 0]) ?_ 3 _ rfl;(with_reducible repeat (first|apply bN|apply bd|apply bA));refine blk_put (cs:= #[.slice Ao27 t833.length co27,.int .i64 t836,.string (⟨#[]⟩:ByteArray),.int .i64 0]) ?_ 2 _ rfl;(with_reducible repeat (first|apply bN|apply bd|apply bA));refine blk_put (cs:= #[.slice Ao27 t833.length co27,.int .i64 0,.string (⟨#[]⟩:ByteArray),.int .i64 0]) ?_ 1 _ rfl;(with_reducible repeat (first|apply bN|apply bd|apply bA));refine blk_put (cs:= #[.slice none 0 0,.int .i64 0,.string (⟨#[]⟩:ByteArray),.int .i64 0]) ?_ 0 _ rfl;(with_reducible repeat (first|apply bN|apply bd|apply bA));exact BK839.out) hb);have n8_:=Aside0.mk (below_step (by repeat (first|(with_reducible first|exact HB.out|apply below_alloc|apply pw_below_drewN|apply below_drew1|refine below_set ?_ GE814.out|refine below_set ?_ GE832.out|refine below_set ?_ GE839.out)|exact HB.out)) hb);clear HO824;clear HO830;clear HO835;clear BK814;clear BK832;clear BK839;clear HB;have HO824:=n0_;have HO830:=n1_;have HO835:=n2_;have HO842:=n3_;have HO848:=n4_;have BK814:=n5_;have BK832:=n6_;have BK839:=n7_;have HB:=n8_;clear n0_ n1_ n2_ n3_ n4_ n5_ n6_ n7_ n8_;(try clear hb);(try clear hb2);(try clear hk);(try clear hi);(try clear ho0);(try clear ho1))|((with_reducible refine gate_dst (N:=10) rfl ?_);refine box_event ?hg (N:=10) ?hd (cs:= #[.slice none 0 0,.int .i64 0,.string (⟨#[]⟩:ByteArray),.int .i64 0]) (t:=36) ?hr ?_;(case hd=> rfl);(case hg=> rfl);(case hr=> first|(go_simp;done)|(go_simp;rfl));intro gb850 hg w32 hbox hb;have n0_:=Aside0.mk (Kd.R_below (by (with_reducible repeat (first|apply Kd.R_alloc|apply Kd.R_drewN|apply Kd.R_drew));exact HO824.out) hb);have n1_:=Aside0.mk (Kd.R_below (by (with_reducible repeat (first|apply Kd.R_alloc|apply Kd.R_drewN|apply Kd.R_drew));exact HO830.out) hb);have n2_:=Aside0.mk (Kd.R_below (by (with_reducible repeat (first|apply Kd.R_alloc|apply Kd.R_drewN|apply Kd.R_drew));exact HO835.out) hb);have n3_:=Aside0.mk (Kd.R_below (by (with_reducible repeat (first|apply Kd.R_alloc|apply Kd.R_drewN|apply Kd.R_drew));exact HO842.out) hb);have n4_:=Aside0.mk (Kd.R_below (by (with_reducible repeat (first|apply Kd.R_alloc|apply Kd.R_drewN|apply Kd.R_drew));exact HO848.out) hb);have n5_:=Aside0.mk (blk_below (g:=gb814) (o:= .cells #[.slice A0_0 l0_0.length c0_0,.int .i64 a0_1,.string a0_2,.int .i64 a0_3] 61 (0,0)) (by (with_reducible repeat (first|apply bN|apply bd|apply bA));exact BK814.out) hb);have n6_:=Aside0.mk (blk_below (g:=gb832) (o:= .cells #[.slice Ao21 t822.length co21,.int .i64 t825,.string t826,.int .i64 t827] 36 (0,0)) (by (with_reducible repeat (first|apply bN|apply bd|apply bA));exact BK832.out) hb);have n7_:=Aside0.mk (blk_below (g:=gb839) (o:= .cells #[.slice Ao27 t833.length co27,.int .i64 t836,.string t837,.int .i64 t838] 36 (0,0)) (by (with_reducible repeat (first|apply bN|apply bd|apply bA));exact BK839.out) hb);have n8_:=Aside0.mk (below_step (by repeat (first|(with_reducible first|exact HB.out|apply below_alloc|apply pw_below_drewN|apply below_drew1|refine below_set ?_ GE814.out|refine below_set ?_ GE832.out|refine below_set ?_ GE839.out)|exact HB.out)) hb);have n9_:=Aside0.mk (hbox);have n10_:=Aside0.mk ((by rw [hg];exact (below_size (by repeat (first|(with_reducible first|exact HB.out|apply below_alloc|apply pw_below_drewN|apply below_drew1|refine below_set ?_ GE814.out|refine below_set ?_ GE832.out|refine below_set ?_ GE839.out)|exact HB.out))):w.heap.size ≤ gb850));have n11_:=Aside0.mk ((by rw [hg];exact (below_size (by repeat (first|(with_reducible first|exact HB.out|apply below_alloc|apply pw_below_drewN|apply below_drew1|refine below_set ?_ GE814.out|refine below_set ?_ GE832.out|refine below_set ?_ GE839.out)|exact HB.out))):w.heap.size ≤ gb850));have n12_:=Aside0.mk ((by rw [hg];exact Nat.ne_of_lt (blk_lt (g:=gb814) (o:= .cells #[.slice A0_0 l0_0.length c0_0,.int .i64 a0_1,.string a0_2,.int .i64 a0_3] 61 (0,0)) (by (with_reducible repeat (first|apply bN|apply bd|apply bA));exact BK814.out)):gb814 ≠ gb850));have n13_:=Aside0.mk ((by rw [hg];exact Nat.ne_of_gt (blk_lt (g:=gb814) (o:= .cells #[.slice A0_0 l0_0.length c0_0,.int .i64 a0_1,.string a0_2,.int .i64 a0_3] 61 (0,0)) (by (with_reducible repeat (first|apply bN|apply bd|apply bA));exact BK814.out)):gb850 ≠ gb814));have n14_:=Aside0.mk ((by rw [hg];exact Nat.ne_of_lt (blk_lt (g:=gb832) (o:= .cells #[.slice Ao21 t822.length co21,.int .i64 t825,.string t826,.int .i64 t827] 36 (0,0)) (by (with_reducible repeat (first|apply bN|apply bd|apply bA));exact BK832.out)):gb832 ≠ gb850));have n15_:=Aside0.mk ((by rw [hg];exact Nat.ne_of_gt (blk_lt (g:=gb832) (o:= .cells #[.slice Ao21 t822.length co21,.int .i64 t825,.string t826,.int .i64 t827] 36 (0,0)) (by (with_reducible repeat (first|apply bN|apply bd|apply bA));exact BK832.out)):gb850 ≠ gb832));have n16_:=Aside0.mk ((by rw [hg];exact Nat.ne_of_lt (blk_lt (g:=gb839) (o:= .cells #[.slice Ao27 t833.length co27,.int .i64 t836,.string t837,.int .i64 t838] 36 (0,0)) (by (with_reducible repeat (first|apply bN|apply bd|apply bA));exact BK839.out)):gb839 ≠ gb850));have n17_:=Aside0.mk ((by rw [hg];exact Nat.ne_of_gt (blk_lt (g:=gb839) (o:= .cells #[.slice Ao27 t833.length co27,.int .i64 t836,.string t837,.int .i64 t838] 36 (0,0)) (by (with_reducible repeat (first|apply bN|apply bd|apply bA));exact BK839.out)):gb850 ≠ gb839));clear HO824;clear HO830;clear HO835;clear HO842;clear HO848;clear BK814;clear BK832;clear BK839;clear HB;have HO824:=n0_;have HO830:=n1_;have HO835:=n2_;have HO842:=n3_;have HO848:=n4_;have BK814:=n5_;have BK832:=n6_;have BK839:=n7_;have HB:=n8_;have BK850:=n9_;have GW850:=n10_;have GE850:=n11_;have NB814_850:=n12_;have NB850_814:=n13_;have NB832_850:=n14_;have NB850_832:=n15_;have NB839_850:=n16_;have NB850_839:=n17_;clear n0_ n1_ n2_ n3_ n4_ n5_ n6_ n7_ n8_ n9_ n10_ n11_ n12_ n13_ n14_ n15_ n16_ n17_;clear hb hbox hg;obtain ⟨Ao33,co33,eo33⟩:=Kd.R_slice HO842.out;subst eo33;have hnb34:=NB850_814.out;have hnc34:=NB814_850.out;have hnb35:=NB850_832.out;have hnc35:=NB832_850.out;have hnb36:=NB850_839.out;have hnc36:=NB839_850.out;have hcz37_0:w32.cell? ⟨gb850,0,none⟩=some (.slice none 0 0):=(blk_cell BK850.out 0).trans rfl;have hcz37_1:w32.cell? ⟨gb850,1,none⟩=some (.int .i64 0):=(blk_cell BK850.out 1).trans rfl;have hcz37_2:w32.cell? ⟨gb850,2,none⟩=some (.string (⟨#[]⟩:ByteArray)):=(blk_cell BK850.out 2).trans rfl;have hcz37_3:w32.cell? ⟨gb850,3,none⟩=some (.int .i64 0):=(blk_cell BK850.out 3).trans rfl;have hfz37_0:=blk_frozen BK850.out 0;have hfz37_1:=blk_frozen BK850.out 1;have hfz37_2:=blk_frozen BK850.out 2;have hfz37_3:=blk_frozen BK850.out 3))
    (try simp only [Act.put,List.setIfInBounds_toArray,List.set_cons_zero,List.set_cons_succ])
    go_cut [55] (fun v55 wc=> ∃ (kq:Nat) (x55_11:Bool),v55= .bool x55_11 ∧ Aside0 (laws_FnExactTakeSome.j0 kq a1 t828 t831 t846 t849 x55_11 l0_0 a0_1 a0_2 a0_3 t822 t825 t826 t827 t833 t836 t837 t838 t840 t843 t844 t845=some r) ∧ Aside0 (kq ≤ k) ∧ Aside0 (Kd.R k79 79 wc w.heap.size (fun k_=> some k_ ≠ (v847:Value).ownBlock ∧ some k_ ≠ ((.slice Ao21 t822.length co21):Value).ownBlock ∧ some k_ ≠ ((.slice Ao27 t833.length co27):Value).ownBlock ∧ some k_ ≠ ((.slice Ao33 t840.length co33):Value).ownBlock) v829 t828) ∧ Aside0 (Kd.R k79 79 wc w.heap.size (fun k_=> some k_ ≠ (v829:Value).ownBlock ∧ some k_ ≠ ((.slice Ao21 t822.length co21):Value).ownBlock ∧ some k_ ≠ ((.slice Ao27 t833.length co27):Value).ownBlock ∧ some k_ ≠ ((.slice Ao33 t840.length co33):Value).ownBlock) v847 t846) ∧ Aside0 (Kd.R k79 79 wc w.heap.size (fun k_=> some k_ ≠ (v829:Value).ownBlock ∧ some k_ ≠ (v847:Value).ownBlock ∧ some k_ ≠ ((.slice Ao27 t833.length co27):Value).ownBlock ∧ some k_ ≠ ((.slice Ao33 t840.length co33):Value).ownBlock) (.slice Ao21 t822.length co21) t822) ∧ Aside0 (Kd.R k79 79 wc w.heap.size (fun k_=> some k_ ≠ (v829:Value).ownBlock ∧ some k_ ≠ (v847:Value).ownBlock ∧ some k_ ≠ ((.slice Ao21 t822.length co21):Value).ownBlock ∧ some k_ ≠ ((.slice Ao33 t840.length co33):Value).ownBlock) (.slice Ao27 t833.length co27) t833) ∧ Aside0 (Kd.R k79 79 wc w.heap.size (fun k_=> some k_ ≠ (v829:Value).ownBlock ∧ some k_ ≠ (v847:Value).ownBlock ∧ some k_ ≠ ((.slice Ao21 t822.length co21):Value).ownBlock ∧ some k_ ≠ ((.slice Ao27 t833.length co27):Value).ownBlock) (.slice Ao33 t840.length co33) t840) ∧ Aside0 (wc.heap[gb814]?=some (.cells #[(.slice A0_0 l0_0.length c0_0),.int .i64 a0_1,.string a0_2,.int .i64 a0_3] 61 (0,0))) ∧ Aside0 (wc.heap[gb832]?=some (.cells #[(.slice Ao21 t822.length co21),.int .i64 t825,.string t826,.int .i64 t827] 36 (0,0))) ∧ Aside0 (wc.heap[gb839]?=some (.cells #[(.slice Ao27 t833.length co27),.int .i64 t836,.string t837,.int .i64 t838] 36 (0,0))) ∧ Aside0 (wc.heap[gb850]?=some (.cells #[(.slice Ao33 t840.length co33),.int .i64 t843,.string t844,.int .i64 t845] 36 (0,0))) ∧ Aside0 (Below w.heap.size w wc))
    case first=>
      have H:=HC12.out
      clear HC12
      replace H:=Option.bind_eq_some_iff.mp H
      obtain ⟨t851,A380,H⟩:=H
      replace H:(if t851=true then ((laws_eqExtS.f k t846 t828).bind fun t852=> (if t852=true then (laws_FnExactTakeSome.j0 k a1 t828 t831 t846 t849 (t849 !=t831) l0_0 a0_1 a0_2 a0_3 t822 t825 t826 t827 t833 t836 t837 t838 t840 t843 t844 t845) else (none))) else (none))=some r:=H
      have A38:=Aside0.mk A380
      clear A380
      by_cases c39:t851=true
      · subst c39
        have H1:((laws_eqExtS.f k t846 t828).bind fun t852=> (if t852=true then (laws_FnExactTakeSome.j0 k a1 t828 t831 t846 t849 (t849 !=t831) l0_0 a0_1 a0_2 a0_3 t822 t825 t826 t827 t833 t836 t837 t838 t840 t843 t844 t845) else (none)))=some r:=by rw [if_pos rfl] at H;exact H
        clear H
        have H:=H1
        clear H1
        replace H:=Option.bind_eq_some_iff.mp H
        obtain ⟨t852,A400,H⟩:=H
        replace H:(if t852=true then (laws_FnExactTakeSome.j0 k a1 t828 t831 t846 t849 (t849 !=t831) l0_0 a0_1 a0_2 a0_3 t822 t825 t826 t827 t833 t836 t837 t838 t840 t843 t844 t845) else (none))=some r:=H
        have A40:=Aside0.mk A400
        clear A400
        by_cases c41:t852=true
        · subst c41
          have H1:(laws_FnExactTakeSome.j0 k a1 t828 t831 t846 t849 (t849 !=t831) l0_0 a0_1 a0_2 a0_3 t822 t825 t826 t827 t833 t836 t837 t838 t840 t843 t844 t845)=some r:=by rw [if_pos rfl] at H;exact H
          clear H
          have H:=H1
          clear H1
          have H':=Aside0.mk H
          clear H
          have hnb42:=NB850_814.out
          have hnc42:=NB814_850.out
          have hnb43:=NB850_832.out
          have hnc43:=NB832_850.out
          have hnb44:=NB850_839.out
          have hnc44:=NB839_850.out
          have hcz45_0:w32.cell? ⟨gb850,0,none⟩=some (.slice none 0 0):=(blk_cell BK850.out 0).trans rfl
          have hcz45_1:w32.cell? ⟨gb850,1,none⟩=some (.int .i64 0):=(blk_cell BK850.out 1).trans rfl
          have hcz45_2:w32.cell? ⟨gb850,2,none⟩=some (.string (⟨#[]⟩:ByteArray)):=(blk_cell BK850.out 2).trans rfl
          have hcz45_3:w32.cell? ⟨gb850,3,none⟩=some (.int .i64 0):=(blk_cell BK850.out 3).trans rfl
          have hfz45_0:=blk_frozen BK850.out 0
          have hfz45_1:=blk_frozen BK850.out 1
          have hfz45_2:=blk_frozen BK850.out 2
          have hfz45_3:=blk_frozen BK850.out 3
          have hnb46:=NB832_814.out
          have hnc46:=NB814_832.out
          have hnb47:=NB832_839.out
          have hnc47:=NB839_832.out
          have hcz48_0:w32.cell? ⟨gb832,0,none⟩=some (.slice Ao21 t822.length co21):=(blk_cell BK832.out 0).trans rfl
          have hcz48_1:w32.cell? ⟨gb832,1,none⟩=some (.int .i64 t825):=(blk_cell BK832.out 1).trans rfl
          have hcz48_2:w32.cell? ⟨gb832,2,none⟩=some (.string t826):=(blk_cell BK832.out 2).trans rfl
          have hcz48_3:w32.cell? ⟨gb832,3,none⟩=some (.int .i64 t827):=(blk_cell BK832.out 3).trans rfl
          have hfz48_0:=blk_frozen BK832.out 0
          have hfz48_1:=blk_frozen BK832.out 1
          have hfz48_2:=blk_frozen BK832.out 2
          have hfz48_3:=blk_frozen BK832.out 3
          go_wp2_with (first|((with_reducible refine gate_callee (f:=36) rfl ?_);refine goesL_ (some 43) rfl rfl Try.func36 (by kernel_rfl) rfl #[.agg #[.slice Ao33 t840.length co33,.int .i64 t843,.string t844,.int .i64 t845],.agg #[.slice Ao21 t822.length co21,.int .i64 t825,.string t826,.int .i64 t827]] rfl (by (try simp only [List.map_toArray,List.map_cons,List.map_nil]);first|done|rfl|(simp only [List.length_drop,List.length_take];rfl)) ?_;(with_reducible refine (laws_eqSource.calls k _ _ t840 t843 t844 t845 _ _ t822 t825 t826 t827 true _ ?side1 ?side2 ?side3 ?side4 A38.out).mono ?_);(case side1=> refine (Kd.R_reads' (e:=79) (base:=w.heap.size) (ok:=fun k_=> (((some k_ ≠ (v847:Value).ownBlock ∧ some k_ ≠ (.slice Ao21 t822.length co21:Value).ownBlock) ∧ some k_ ≠ (v829:Value).ownBlock) ∧ some k_ ≠ (.slice Ao27 t833.length co27:Value).ownBlock)) (n:=t840.length) (c:=co33) ?_).2.2;exact (by (with_reducible repeat (first|apply Kd.R_alloc|apply Kd.R_drewN|apply Kd.R_drew));exact (Kd.R_mono (Kd.R_far (p:=⟨gb850,3,none⟩) (Kd.R_far (p:=⟨gb850,2,none⟩) (Kd.R_far (p:=⟨gb850,1,none⟩) (Kd.R_far (p:=⟨gb850,0,none⟩) (Kd.R_types HO842.out BK850.out (by decide)) (fun _ hk=> hk.2) (.slice Ao33 t840.length co33)) (fun _ hk=> hk.2) (.int .i64 t843)) (fun _ hk=> hk.2) (.string t844)) (fun _ hk=> hk.2) (.int .i64 t845)) (fun _ h_=> h_.1))));(case side2=> exact (Kd.R_reads' HO842.out).2.1);(case side3=> refine (Kd.R_reads' (e:=79) (base:=w.heap.size) (ok:=fun k_=> (((some k_ ≠ (v829:Value).ownBlock ∧ some k_ ≠ (.slice Ao27 t833.length co27:Value).ownBlock) ∧ some k_ ≠ (.slice Ao33 t840.length co33:Value).ownBlock) ∧ some k_ ≠ (v847:Value).ownBlock)) (n:=t822.length) (c:=co21) ?_).2.2;exact (by (with_reducible repeat (first|apply Kd.R_alloc|apply Kd.R_drewN|apply Kd.R_drew));exact (Kd.R_mono (Kd.R_far (p:=⟨gb850,3,none⟩) (Kd.R_far (p:=⟨gb850,2,none⟩) (Kd.R_far (p:=⟨gb850,1,none⟩) (Kd.R_far (p:=⟨gb850,0,none⟩) (Kd.R_types HO824.out BK850.out (by decide)) (fun _ hk=> hk.2) (.slice Ao33 t840.length co33)) (fun _ hk=> hk.2) (.int .i64 t843)) (fun _ hk=> hk.2) (.string t844)) (fun _ hk=> hk.2) (.int .i64 t845)) (fun _ h_=> h_.1))));(case side4=> exact (Kd.R_reads' HO824.out).2.1);rintro e w49 ⟨rfl,hb⟩;refine ⟨_,rfl,?_⟩;have n0_:=Aside0.mk (Kd.R_below (by (with_reducible repeat (first|apply Kd.R_alloc|apply Kd.R_drewN|apply Kd.R_drew));exact (Kd.R_mono (Kd.R_far (p:=⟨gb850,3,none⟩) (Kd.R_far (p:=⟨gb850,2,none⟩) (Kd.R_far (p:=⟨gb850,1,none⟩) (Kd.R_far (p:=⟨gb850,0,none⟩) (Kd.R_types HO824.out BK850.out (by decide)) (fun _ hk=> hk.2) (.slice Ao33 t840.length co33)) (fun _ hk=> hk.2) (.int .i64 t843)) (fun _ hk=> hk.2) (.string t844)) (fun _ hk=> hk.2) (.int .i64 t845)) (fun _ h_=> h_.1))) hb);have n1_:=Aside0.mk (Kd.R_below (by (with_reducible repeat (first|apply Kd.R_alloc|apply Kd.R_drewN|apply Kd.R_drew));exact (Kd.R_mono (Kd.R_far (p:=⟨gb850,3,none⟩) (Kd.R_far (p:=⟨gb850,2,none⟩) (Kd.R_far (p:=⟨gb850,1,none⟩) (Kd.R_far (p:=⟨gb850,0,none⟩) (Kd.R_types HO830.out BK850.out (by decide)) (fun _ hk=> hk.2) (.slice Ao33 t840.length co33)) (fun _ hk=> hk.2) (.int .i64 t843)) (fun _ hk=> hk.2) (.string t844)) (fun _ hk=> hk.2) (.int .i64 t845)) (fun _ h_=> h_.1))) hb);have n2_:=Aside0.mk (Kd.R_below (by (with_reducible repeat (first|apply Kd.R_alloc|apply Kd.R_drewN|apply Kd.R_drew));exact (Kd.R_mono (Kd.R_far (p:=⟨gb850,3,none⟩) (Kd.R_far (p:=⟨gb850,2,none⟩) (Kd.R_far (p:=⟨gb850,1,none⟩) (Kd.R_far (p:=⟨gb850,0,none⟩) (Kd.R_types HO835.out BK850.out (by decide)) (fun _ hk=> hk.2) (.slice Ao33 t840.length co33)) (fun _ hk=> hk.2) (.int .i64 t843)) (fun _ hk=> hk.2) (.string t844)) (fun _ hk=> hk.2) (.int .i64 t845)) (fun _ h_=> h_.1))) hb);have n3_:=Aside0.mk (Kd.R_below (by (with_reducible repeat (first|apply Kd.R_alloc|apply Kd.R_drewN|apply Kd.R_drew));exact (Kd.R_mono (Kd.R_far (p:=⟨gb850,3,none⟩) (Kd.R_far (p:=⟨gb850,2,none⟩) (Kd.R_far (p:=⟨gb850,1,none⟩) (Kd.R_far (p:=⟨gb850,0,none⟩) (Kd.R_types HO842.out BK850.out (by decide)) (fun _ hk=> hk.2) (.slice Ao33 t840.length co33)) (fun _ hk=> hk.2) (.int .i64 t843)) (fun _ hk=> hk.2) (.string t844)) (fun _ hk=> hk.2) (.int .i64 t845)) (fun _ h_=> h_.1))) hb);have n4_:=Aside0.mk (Kd.R_below (by (with_reducible repeat (first|apply Kd.R_alloc|apply Kd.R_drewN|apply Kd.R_drew));exact (Kd.R_mono (Kd.R_far (p:=⟨gb850,3,none⟩) (Kd.R_far (p:=⟨gb850,2,none⟩) (Kd.R_far (p:=⟨gb850,1,none⟩) (Kd.R_far (p:=⟨gb850,0,none⟩) (Kd.R_types HO848.out BK850.out (by decide)) (fun _ hk=> hk.2) (.slice Ao33 t840.length co33)) (fun _ hk=> hk.2) (.int .i64 t843)) (fun _ hk=> hk.2) (.string t844)) (fun _ hk=> hk.2) (.int .i64 t845)) (fun _ h_=> h_.1))) hb);have n5_:=Aside0.mk (blk_below (g:=gb814) (o:= .cells #[.slice A0_0 l0_0.length c0_0,.int .i64 a0_1,.string a0_2,.int .i64 a0_3] 61 (0,0)) (by (with_reducible repeat (first|apply bN|apply bd|apply bA));refine blk_far ?_ NB814_850.out _;(with_reducible repeat (first|apply bN|apply bd|apply bA));refine blk_far ?_ NB814_850.out _;(with_reducible repeat (first|apply bN|apply bd|apply bA));refine blk_far ?_ NB814_850.out _;(with_reducible repeat (first|apply bN|apply bd|apply bA));refine blk_far ?_ NB814_850.out _;(with_reducible repeat (first|apply bN|apply bd|apply bA));exact BK814.out) hb);have n6_:=Aside0.mk (blk_below (g:=gb832) (o:= .cells #[.slice Ao21 t822.length co21,.int .i64 t825,.string t826,.int .i64 t827] 36 (0,0)) (by (with_reducible repeat (first|apply bN|apply bd|apply bA));refine blk_far ?_ NB832_850.out _;(with_reducible repeat (first|apply bN|apply bd|apply bA));refine blk_far ?_ NB832_850.out _;(with_reducible repeat (first|apply bN|apply bd|apply bA));refine blk_far ?_ NB832_850.out _;(with_reducible repeat (first|apply bN|apply bd|apply bA));refine blk_far ?_ NB832_850.out _;(with_reducible repeat (first|apply bN|apply bd|apply bA));exact BK832.out) hb);have n7_:=Aside0.mk (blk_below (g:=gb839) (o:= .cells #[.slice Ao27 t833.length co27,.int .i64 t836,.string t837,.int .i64 t838] 36 (0,0)) (by (with_reducible repeat (first|apply bN|apply bd|apply bA));refine blk_far ?_ NB839_850.out _;(with_reducible repeat (first|apply bN|apply bd|apply bA));refine blk_far ?_ NB839_850.out _;(with_reducible repeat (first|apply bN|apply bd|apply bA));refine blk_far ?_ NB839_850.out _;(with_reducible repeat (first|apply bN|apply bd|apply bA));refine blk_far ?_ NB839_850.out _;(with_reducible repeat (first|apply bN|apply bd|apply bA));exact BK839.out) hb);have n8_:=Aside0.mk (blk_below (g:=gb850) (o:= .cells #[.slice Ao33 t840.length co33,.int .i64 t843,.string t844,.int .i64 t845] 36 (0,0)) (by (with_reducible repeat (first|apply bN|apply bd|apply bA));refine blk_put (cs:= #[.slice Ao33 t840.length co33,.int .i64 t843,.string t844,.int .i64 0]) ?_ 3 _ rfl;(with_reducible repeat (first|apply bN|apply bd|apply bA));refine blk_put (cs:= #[.slice Ao33 t840.length co33,.int .i64 t843,.string (⟨#[]⟩:ByteArray),.int .i64 0]) ?_ 2 _ rfl;(with_reducible repeat (first|apply bN|apply bd|apply bA));refine blk_put (cs:= #[.slice Ao33 t840.length co33,.int .i64 0,.string (⟨#[]⟩:ByteArray),.int .i64 0]) ?_ 1 _ rfl;(with_reducible repeat (first|apply bN|apply bd|apply bA));refine blk_put (cs:= #[.slice none 0 0,.int .i64 0,.string (⟨#[]⟩:ByteArray),.int .i64 0]) ?_ 0 _ rfl;(with_reducible repeat (first|apply bN|apply bd|apply bA));exact BK850.out) hb);have n9_:=Aside0.mk (below_step (by repeat (first|(with_reducible first|exact HB.out|apply below_alloc|apply pw_below_drewN|apply below_drew1|refine below_set ?_ GE814.out|refine below_set ?_ GE832.out|refine below_set ?_ GE839.out|refine below_set ?_ GE850.out)|exact HB.out)) hb);clear HO824;clear HO830;clear HO835;clear HO842;clear HO848;clear BK814;clear BK832;clear BK839;clear BK850;clear HB;have HO824:=n0_;have HO830:=n1_;have HO835:=n2_;have HO842:=n3_;have HO848:=n4_;have BK814:=n5_;have BK832:=n6_;have BK839:=n7_;have BK850:=n8_;have HB:=n9_;clear n0_ n1_ n2_ n3_ n4_ n5_ n6_ n7_ n8_ n9_;(try clear hb);(try clear hb2);(try clear hk);(try clear hi);obtain ⟨Ao50,co50,eo50⟩:=Kd.R_slice HO848.out;subst eo50;obtain ⟨Ao51,co51,eo51⟩:=Kd.R_slice HO830.out;subst eo51)|(go_at_call 63;(with_reducible refine (laws_eqExtS.calls k _ _ t846 _ _ t828 true _ ?side1 ?side2 ?side3 ?side4 A40.out).mono ?_);(case side1=> repeat (first|exact (Kd.R_reads' HO848.out).2.2|(with_reducible refine Kd.C_alloc ?_ _)|(with_reducible refine Kd.C_drewN ?_ _)|(with_reducible refine Kd.C_drew ?_)));(case side2=> exact (Kd.R_reads' HO848.out).2.1);(case side3=> repeat (first|exact (Kd.R_reads' HO830.out).2.2|(with_reducible refine Kd.C_alloc ?_ _)|(with_reducible refine Kd.C_drewN ?_ _)|(with_reducible refine Kd.C_drew ?_)));(case side4=> exact (Kd.R_reads' HO830.out).2.1);rintro e w52 ⟨rfl,hb⟩;have n0_:=Aside0.mk (Kd.R_below (by (with_reducible repeat (first|apply Kd.R_alloc|apply Kd.R_drewN|apply Kd.R_drew));exact HO824.out) hb);have n1_:=Aside0.mk (Kd.R_below (by (with_reducible repeat (first|apply Kd.R_alloc|apply Kd.R_drewN|apply Kd.R_drew));exact HO830.out) hb);have n2_:=Aside0.mk (Kd.R_below (by (with_reducible repeat (first|apply Kd.R_alloc|apply Kd.R_drewN|apply Kd.R_drew));exact HO835.out) hb);have n3_:=Aside0.mk (Kd.R_below (by (with_reducible repeat (first|apply Kd.R_alloc|apply Kd.R_drewN|apply Kd.R_drew));exact HO842.out) hb);have n4_:=Aside0.mk (Kd.R_below (by (with_reducible repeat (first|apply Kd.R_alloc|apply Kd.R_drewN|apply Kd.R_drew));exact HO848.out) hb);have n5_:=Aside0.mk (blk_below (g:=gb814) (o:= .cells #[.slice A0_0 l0_0.length c0_0,.int .i64 a0_1,.string a0_2,.int .i64 a0_3] 61 (0,0)) (by (with_reducible repeat (first|apply bN|apply bd|apply bA));exact BK814.out) hb);have n6_:=Aside0.mk (blk_below (g:=gb832) (o:= .cells #[.slice Ao21 t822.length co21,.int .i64 t825,.string t826,.int .i64 t827] 36 (0,0)) (by (with_reducible repeat (first|apply bN|apply bd|apply bA));exact BK832.out) hb);have n7_:=Aside0.mk (blk_below (g:=gb839) (o:= .cells #[.slice Ao27 t833.length co27,.int .i64 t836,.string t837,.int .i64 t838] 36 (0,0)) (by (with_reducible repeat (first|apply bN|apply bd|apply bA));exact BK839.out) hb);have n8_:=Aside0.mk (blk_below (g:=gb850) (o:= .cells #[.slice Ao33 t840.length co33,.int .i64 t843,.string t844,.int .i64 t845] 36 (0,0)) (by (with_reducible repeat (first|apply bN|apply bd|apply bA));exact BK850.out) hb);have n9_:=Aside0.mk (below_step (by repeat (first|(with_reducible first|exact HB.out|apply below_alloc|apply pw_below_drewN|apply below_drew1|refine below_set ?_ GE814.out|refine below_set ?_ GE832.out|refine below_set ?_ GE839.out|refine below_set ?_ GE850.out)|exact HB.out)) hb);clear HO824;clear HO830;clear HO835;clear HO842;clear HO848;clear BK814;clear BK832;clear BK839;clear BK850;clear HB;have HO824:=n0_;have HO830:=n1_;have HO835:=n2_;have HO842:=n3_;have HO848:=n4_;have BK814:=n5_;have BK832:=n6_;have BK839:=n7_;have BK850:=n8_;have HB:=n9_;clear n0_ n1_ n2_ n3_ n4_ n5_ n6_ n7_ n8_ n9_;(try clear hb);(try clear hb2);(try clear hk);(try clear hi)))
          go_meet
          case rel=> exact ⟨_,((t849 !=t831)),(by first|rfl|(simp;done)|(simp [*];done)),H',⟨by first|omega|exact Nat.le_refl _⟩,⟨by (with_reducible repeat (first|apply Kd.R_alloc|apply Kd.R_drewN|apply Kd.R_drew));exact Kd.R_mono HO830.out (fun _ hk=> ⟨hk.2,⟨hk.1.1.1,⟨hk.1.1.2,hk.1.2⟩⟩⟩)⟩,⟨by (with_reducible repeat (first|apply Kd.R_alloc|apply Kd.R_drewN|apply Kd.R_drew));exact Kd.R_mono HO848.out (fun _ hk=> ⟨hk.1.2,⟨hk.1.1.2,⟨hk.2,hk.1.1.1⟩⟩⟩)⟩,⟨by (with_reducible repeat (first|apply Kd.R_alloc|apply Kd.R_drewN|apply Kd.R_drew));exact Kd.R_mono HO824.out (fun _ hk=> ⟨hk.1.1.1,⟨hk.2,⟨hk.1.1.2,hk.1.2⟩⟩⟩)⟩,⟨by (with_reducible repeat (first|apply Kd.R_alloc|apply Kd.R_drewN|apply Kd.R_drew));exact Kd.R_mono HO835.out (fun _ hk=> ⟨hk.1.1.2,⟨hk.2,⟨hk.1.1.1.2,hk.1.2⟩⟩⟩)⟩,⟨by (with_reducible repeat (first|apply Kd.R_alloc|apply Kd.R_drewN|apply Kd.R_drew));exact Kd.R_mono HO842.out (fun _ hk=> ⟨hk.1.2,⟨hk.1.1.1,⟨hk.1.1.2,hk.2⟩⟩⟩)⟩,⟨by (with_reducible repeat (first|apply bN|apply bd|apply bA));exact BK814.out⟩,⟨by (with_reducible repeat (first|apply bN|apply bd|apply bA));exact BK832.out⟩,⟨by (with_reducible repeat (first|apply bN|apply bd|apply bA));exact BK839.out⟩,⟨by (with_reducible repeat (first|apply bN|apply bd|apply bA));exact BK850.out⟩,⟨by repeat (first|(with_reducible first|exact HB.out|apply below_alloc|apply pw_below_drewN|apply below_drew1|refine below_set ?_ GE814.out|refine below_set ?_ GE832.out|refine below_set ?_ GE839.out|refine below_set ?_ GE850.out)|exact HB.out)⟩⟩
        · replace c41:=Bool.eq_false_iff.mpr c41
          subst c41
          have H1:(none)=some r:=by rw [if_neg (show ¬ (false=true) by decide)] at H;exact H
          clear H
          have H:=H1
          clear H1
          exact absurd H (by simp)
      · replace c39:=Bool.eq_false_iff.mpr c39
        subst c39
        have H1:(none)=some r:=by rw [if_neg (show ¬ (false=true) by decide)] at H;exact H
        clear H
        have H:=H1
        clear H1
        exact absurd H (by simp)
    case rest=>
      clear HC12
      try clear c1
      try clear c2
      try clear p2
      try clear c3
      try clear c4
      try clear c4b0
      try clear c5
      try clear c7
      try clear c19
      try clear c22
      try clear c28
      try clear c29
      try clear c34
      try clear c35
      try clear c36
      try clear c39
      try clear c41
      try clear c42
      try clear c43
      try clear c44
      try clear c46
      try clear c47
      try clear hcz14_0
      try clear hcz14_1
      try clear hcz14_2
      try clear hcz14_3
      try clear hcz16_0
      try clear hcz16_1
      try clear hcz16_2
      try clear hcz16_3
      try clear hcz23_0
      try clear hcz23_1
      try clear hcz23_2
      try clear hcz23_3
      try clear hcz24_0
      try clear hcz24_1
      try clear hcz24_2
      try clear hcz24_3
      try clear hcz30_0
      try clear hcz30_1
      try clear hcz30_2
      try clear hcz30_3
      try clear hcz37_0
      try clear hcz37_1
      try clear hcz37_2
      try clear hcz37_3
      try clear hcz45_0
      try clear hcz45_1
      try clear hcz45_2
      try clear hcz45_3
      try clear hcz48_0
      try clear hcz48_1
      try clear hcz48_2
      try clear hcz48_3
      try clear hcz6_0
      try clear hcz6_1
      try clear hcz6_2
      try clear hcz6_3
      try clear hfz14_0
      try clear hfz14_1
      try clear hfz14_2
      try clear hfz14_3
      try clear hfz16_0
      try clear hfz16_1
      try clear hfz16_2
      try clear hfz16_3
      try clear hfz23_0
      try clear hfz23_1
      try clear hfz23_2
      try clear hfz23_3
      try clear hfz24_0
      try clear hfz24_1
      try clear hfz24_2
      try clear hfz24_3
      try clear hfz30_0
      try clear hfz30_1
      try clear hfz30_2
      try clear hfz30_3
      try clear hfz37_0
      try clear hfz37_1
      try clear hfz37_2
      try clear hfz37_3
      try clear hfz45_0
      try clear hfz45_1
      try clear hfz45_2
      try clear hfz45_3
      try clear hfz48_0
      try clear hfz48_1
      try clear hfz48_2
      try clear hfz48_3
      try clear hfz6_0
      try clear hfz6_1
      try clear hfz6_2
      try clear hfz6_3
      obtain ⟨kq,x55_11,rfl,HA,HJ11,HO_7,HO_11,HO_833000,HO_840000,HO_851000,BK814,BK832,BK839,BK850,HB⟩:=hcut
      cases kq with
      |zero=> exact absurd HA.out (by simp [laws_FnExactTakeSome.j0])
      |succ kj11=>
        have H:=HA.out
        clear HA
        simp only [laws_FnExactTakeSome.j0] at H
        by_cases c53:x55_11=true
        · subst c53
          have H1:(none)=some r:=by rw [if_pos rfl] at H;exact H
          clear H
          have H:=H1
          clear H1
          exact absurd H (by simp)
        · replace c53:=Bool.eq_false_iff.mpr c53
          subst c53
          have H1:((laws_toSource.f kj11 l0_0 a0_1 a0_2 a0_3).bind fun bt853=> ((laws_eqSource.f kj11 t833 t836 t837 t838 bt853.1 bt853.2.1 bt853.2.2.1 bt853.2.2.2).bind fun t859=> (if t859=true then ((laws_markSource.f kj11 t833 t836 t837 t838 1).bind fun bt860=> (if bt860.1 < 0 then (none) else ((laws_eqSource.f kj11 t840 t843 t844 t845 t822 t825 t826 t827).bind fun t862=> (if t862=true then ((laws_eqExtS.f kj11 t846 t828).bind fun t863=> (if t863=true then (laws_FnExactTakeSome.j1 kj11 a1 t828 t831 t846 (t849 !=t831) l0_0 a0_1 a0_2 a0_3 t822 t825 t826 t827 t840 t843 t844 t845) else (none))) else (none))))) else (none))))=some r:=by rw [if_neg (show ¬ (false=true) by decide)] at H;exact H
          clear H
          have H:=H1
          clear H1
          replace H:=Option.bind_eq_some_iff.mp H
          obtain ⟨⟨t853,t856,t857,t858⟩,A540,H⟩:=H
          replace H:((laws_eqSource.f kj11 t833 t836 t837 t838 t853 t856 t857 t858).bind fun t859=> (if t859=true then ((laws_markSource.f kj11 t833 t836 t837 t838 1).bind fun bt860=> (if bt860.1 < 0 then (none) else ((laws_eqSource.f kj11 t840 t843 t844 t845 t822 t825 t826 t827).bind fun t862=> (if t862=true then ((laws_eqExtS.f kj11 t846 t828).bind fun t863=> (if t863=true then (laws_FnExactTakeSome.j1 kj11 a1 t828 t831 t846 (t849 !=t831) l0_0 a0_1 a0_2 a0_3 t822 t825 t826 t827 t840 t843 t844 t845) else (none))) else (none))))) else (none)))=some r:=H
          have A54:=Aside0.mk A540
          clear A540
          replace H:=Option.bind_eq_some_iff.mp H
          obtain ⟨t859,A550,H⟩:=H
          replace H:(if t859=true then ((laws_markSource.f kj11 t833 t836 t837 t838 1).bind fun bt860=> (if bt860.1 < 0 then (none) else ((laws_eqSource.f kj11 t840 t843 t844 t845 t822 t825 t826 t827).bind fun t862=> (if t862=true then ((laws_eqExtS.f kj11 t846 t828).bind fun t863=> (if t863=true then (laws_FnExactTakeSome.j1 kj11 a1 t828 t831 t846 (t849 !=t831) l0_0 a0_1 a0_2 a0_3 t822 t825 t826 t827 t840 t843 t844 t845) else (none))) else (none))))) else (none))=some r:=H
          have A55:=Aside0.mk A550
          clear A550
          by_cases c56:t859=true
          · subst c56
            have H1:((laws_markSource.f kj11 t833 t836 t837 t838 1).bind fun bt860=> (if bt860.1 < 0 then (none) else ((laws_eqSource.f kj11 t840 t843 t844 t845 t822 t825 t826 t827).bind fun t862=> (if t862=true then ((laws_eqExtS.f kj11 t846 t828).bind fun t863=> (if t863=true then (laws_FnExactTakeSome.j1 kj11 a1 t828 t831 t846 (t849 !=t831) l0_0 a0_1 a0_2 a0_3 t822 t825 t826 t827 t840 t843 t844 t845) else (none))) else (none)))))=some r:=by rw [if_pos rfl] at H;exact H
            clear H
            have H:=H1
            clear H1
            replace H:=Option.bind_eq_some_iff.mp H
            obtain ⟨⟨t860,t861⟩,A570,H⟩:=H
            replace H:(if t860 < 0 then (none) else ((laws_eqSource.f kj11 t840 t843 t844 t845 t822 t825 t826 t827).bind fun t862=> (if t862=true then ((laws_eqExtS.f kj11 t846 t828).bind fun t863=> (if t863=true then (laws_FnExactTakeSome.j1 kj11 a1 t828 t831 t846 (t849 !=t831) l0_0 a0_1 a0_2 a0_3 t822 t825 t826 t827 t840 t843 t844 t845) else (none))) else (none))))=some r:=H
            have A57:=Aside0.mk A570
            clear A570
            have HC58:=Aside0.mk H
            clear H
            try go_wp2
            have n0_:=Aside0.mk (Kd.R_drew HO_7.out)
            have n1_:=Aside0.mk (Kd.R_drew HO_11.out)
            have n2_:=Aside0.mk (Kd.R_drew HO_833000.out)
            have n3_:=Aside0.mk (Kd.R_drew HO_840000.out)
            have n4_:=Aside0.mk (Kd.R_drew HO_851000.out)
            have n5_:=Aside0.mk (blk_drew BK814.out)
            have n6_:=Aside0.mk (blk_drew BK832.out)
            have n7_:=Aside0.mk (blk_drew BK839.out)
            have n8_:=Aside0.mk (blk_drew BK850.out)
            have n9_:=Aside0.mk (below_drew1 HB.out)
            clear HO_7
            clear HO_11
            clear HO_833000
            clear HO_840000
            clear HO_851000
            clear BK814
            clear BK832
            clear BK839
            clear BK850
            clear HB
            have HO_7:=n0_
            have HO_11:=n1_
            have HO_833000:=n2_
            have HO_840000:=n3_
            have HO_851000:=n4_
            have BK814:=n5_
            have BK832:=n6_
            have BK839:=n7_
            have BK850:=n8_
            have HB:=n9_
            clear n0_ n1_ n2_ n3_ n4_ n5_ n6_ n7_ n8_ n9_
            refine start_ (n:=5) (S:=fun w'=> w'.cell? ⟨gb839,0,none⟩=some (.slice Ao27 t833.length co27) ∧ w'.cell? ⟨gb839,1,none⟩=some (.int .i64 t836) ∧ w'.cell? ⟨gb839,2,none⟩=some (.string t837) ∧ w'.cell? ⟨gb839,3,none⟩=some (.int .i64 t838) ∧ w'.cell? ⟨gb814,0,none⟩=some (.slice A0_0 l0_0.length c0_0) ∧ w'.cell? ⟨gb814,1,none⟩=some (.int .i64 a0_1) ∧ w'.cell? ⟨gb814,2,none⟩=some (.string a0_2) ∧ w'.cell? ⟨gb814,3,none⟩=some (.int .i64 a0_3)) (ds:= []) #[false,false,false,false,false] (by kernel_rfl) rfl rfl ⟨(blk_cell BK839.out 0).trans rfl,(blk_cell BK839.out 1).trans rfl,(blk_cell BK839.out 2).trans rfl,(blk_cell BK839.out 3).trans rfl,(blk_cell BK814.out 0).trans rfl,(blk_cell BK814.out 1).trans rfl,(blk_cell BK814.out 2).trans rfl,(blk_cell BK814.out 3).trans rfl⟩ (fun hHeld=> ?_)
            generalize wc.drew=w59 at HO_7 HO_11 HO_833000 HO_840000 HO_851000 BK814 BK832 BK839 BK850 HB hHeld ⊢
            refine take_ (i:=0) (N:=some 56) (v:=?_) (a':=?_) #[true,false,false,false,false] rfl rfl (by kernel_rfl) (fun _ _ _ h=> h) (Or.inl ⟨by rfl,?_⟩) hHeld ?_ ?_
            rotate_left
            · rintro w' ⟨s0,s1,s2,s3,s4,s5,s6,s7⟩
              go_simp
              with_reducible rfl
            rotate_left
            · simp only [Act.put,List.setIfInBounds_toArray,List.set_cons_zero,List.set_cons_succ,i64_w,i32_w]
              rfl
            refine take_ (i:=1) (N:=some 57) (v:=?_) (a':=?_) #[true,true,false,false,false] rfl rfl (by kernel_rfl) (fun _ _ _ h=> h) (Or.inl ⟨by rfl,?_⟩) hHeld ?_ ?_
            rotate_left
            · rintro w' ⟨s0,s1,s2,s3,s4,s5,s6,s7⟩
              go_simp
              with_reducible rfl
            rotate_left
            · simp only [Act.put,List.setIfInBounds_toArray,List.set_cons_zero,List.set_cons_succ,i64_w,i32_w]
              rfl
            refine one_ (i:=2) (N:=some 58) #[true,true,true,false,false] rfl rfl (by kernel_rfl) (by decide) (fun K hK=> ?_)
            refine goes_ Try.func55 (by kernel_rfl) rfl #[.agg #[.slice A0_0 l0_0.length c0_0,.int .i64 a0_1,.string a0_2,.int .i64 a0_3]] (by rfl) rfl rfl (by (try simp only [List.map_toArray,List.map_cons,List.map_nil]);first|done|rfl|(simp only [List.length_drop,List.length_take];rfl)) ?_
            with_reducible refine (laws_toSource.calls kj11 _ _ l0_0 a0_1 a0_2 a0_3 t853 t856 t857 t858 _ ?side1 ?side2 A54.out).mono ?_
            (case side1=> repeat (first|exact (Kd.C_below HR0_0.out HB.out)|(with_reducible refine Kd.C_alloc ?_ _)|(with_reducible refine Kd.C_drewN ?_ _)|(with_reducible refine Kd.C_drew ?_)))
            (case side2=> exact HC0_0.out)
            rintro e w60 ⟨v854,rfl,ho0,hb⟩
            refine ⟨_,rfl,?_⟩
            have n0_:=Aside0.mk (Kd.R_elder' (by (with_reducible repeat (first|apply Kd.R_alloc|apply Kd.R_drewN|apply Kd.R_drew));exact HO_7.out) (Kd.R_base ho0) hb)
            have n1_:=Aside0.mk (Kd.R_elder' (by (with_reducible repeat (first|apply Kd.R_alloc|apply Kd.R_drewN|apply Kd.R_drew));exact HO_11.out) (Kd.R_base ho0) hb)
            have n2_:=Aside0.mk (Kd.R_elder' (by (with_reducible repeat (first|apply Kd.R_alloc|apply Kd.R_drewN|apply Kd.R_drew));exact HO_833000.out) (Kd.R_base ho0) hb)
            have n3_:=Aside0.mk (Kd.R_elder' (by (with_reducible repeat (first|apply Kd.R_alloc|apply Kd.R_drewN|apply Kd.R_drew));exact HO_840000.out) (Kd.R_base ho0) hb)
            have n4_:=Aside0.mk (Kd.R_elder' (by (with_reducible repeat (first|apply Kd.R_alloc|apply Kd.R_drewN|apply Kd.R_drew));exact HO_851000.out) (Kd.R_base ho0) hb)
            have n5_:=Aside0.mk (Kd.R_lower (Kd.R_new' (Kd.R_new' (Kd.R_new' (Kd.R_new' (Kd.R_new' ho0 (Kd.R_lt (by (with_reducible repeat (first|apply Kd.R_alloc|apply Kd.R_drewN|apply Kd.R_drew));exact HO_7.out))) (Kd.R_lt (by (with_reducible repeat (first|apply Kd.R_alloc|apply Kd.R_drewN|apply Kd.R_drew));exact HO_11.out))) (Kd.R_lt (by (with_reducible repeat (first|apply Kd.R_alloc|apply Kd.R_drewN|apply Kd.R_drew));exact HO_833000.out))) (Kd.R_lt (by (with_reducible repeat (first|apply Kd.R_alloc|apply Kd.R_drewN|apply Kd.R_drew));exact HO_840000.out))) (Kd.R_lt (by (with_reducible repeat (first|apply Kd.R_alloc|apply Kd.R_drewN|apply Kd.R_drew));exact HO_851000.out))) (below_size (by repeat (first|(with_reducible first|exact HB.out|apply below_alloc|apply pw_below_drewN|apply below_drew1|refine below_set ?_ GE814.out|refine below_set ?_ GE832.out|refine below_set ?_ GE839.out|refine below_set ?_ GE850.out)|exact HB.out))))
            have n6_:=Aside0.mk (blk_below (g:=gb814) (o:= .cells #[.slice A0_0 l0_0.length c0_0,.int .i64 a0_1,.string a0_2,.int .i64 a0_3] 61 (0,0)) (by (with_reducible repeat (first|apply bN|apply bd|apply bA));exact BK814.out) hb)
            have n7_:=Aside0.mk (blk_below (g:=gb832) (o:= .cells #[.slice Ao21 t822.length co21,.int .i64 t825,.string t826,.int .i64 t827] 36 (0,0)) (by (with_reducible repeat (first|apply bN|apply bd|apply bA));exact BK832.out) hb)
            have n8_:=Aside0.mk (blk_below (g:=gb839) (o:= .cells #[.slice Ao27 t833.length co27,.int .i64 t836,.string t837,.int .i64 t838] 36 (0,0)) (by (with_reducible repeat (first|apply bN|apply bd|apply bA));exact BK839.out) hb)
            have n9_:=Aside0.mk (blk_below (g:=gb850) (o:= .cells #[.slice Ao33 t840.length co33,.int .i64 t843,.string t844,.int .i64 t845] 36 (0,0)) (by (with_reducible repeat (first|apply bN|apply bd|apply bA));exact BK850.out) hb)
            have n10_:=Aside0.mk (below_step (by repeat (first|(with_reducible first|exact HB.out|apply below_alloc|apply pw_below_drewN|apply below_drew1|refine below_set ?_ GE814.out|refine below_set ?_ GE832.out|refine below_set ?_ GE839.out|refine below_set ?_ GE850.out)|exact HB.out)) hb)
            clear HO_7
            clear HO_11
            clear HO_833000
            clear HO_840000
            clear HO_851000
            clear BK814
            clear BK832
            clear BK839
            clear BK850
            clear HB
            have HO_7:=n0_
            have HO_11:=n1_
            have HO_833000:=n2_
            have HO_840000:=n3_
            have HO_851000:=n4_
            have HO855:=n5_
            have BK814:=n6_
            have BK832:=n7_
            have BK839:=n8_
            have BK850:=n9_
            have HB:=n10_
            clear n0_ n1_ n2_ n3_ n4_ n5_ n6_ n7_ n8_ n9_ n10_
            (try clear hb)
            (try clear hb2)
            (try clear hk)
            (try clear hi)
            (try clear ho0)
            obtain ⟨Ao61,co61,eo61⟩:=Kd.R_slice HO855.out
            (first|subst eo61|(injection eo61 with f1_ f2_ f3_;have f4_:=f1_.symm;have f5_:=f3_.symm;clear f1_ f2_ f3_;subst f4_;subst f5_))
            refine hK.out _ _ ⟨(blk_cell BK839.out 0).trans rfl,(blk_cell BK839.out 1).trans rfl,(blk_cell BK839.out 2).trans rfl,(blk_cell BK839.out 3).trans rfl,(blk_cell BK814.out 0).trans rfl,(blk_cell BK814.out 1).trans rfl,(blk_cell BK814.out 2).trans rfl,(blk_cell BK814.out 3).trans rfl⟩ (fun hHeld=> ?_)
            clear hK K
            refine norm_ (a':=?_) ?_ ?_
            rotate_left
            · show Act.put _ (some 58) _=_
              simp only [Act.put,List.setIfInBounds_toArray,List.set_cons_zero,List.set_cons_succ,i64_w,i32_w]
              rfl
            refine one_ (i:=3) (N:=some 59) #[true,true,true,true,false] rfl rfl (by kernel_rfl) (by decide) (fun K hK=> ?_)
            refine goes_ Try.func36 (by kernel_rfl) rfl #[.agg #[.slice Ao27 t833.length co27,.int .i64 t836,.string t837,.int .i64 t838],.agg #[.slice Ao61 t853.length co61,.int .i64 t856,.string t857,.int .i64 t858]] (by rfl) rfl rfl (by (try simp only [List.map_toArray,List.map_cons,List.map_nil]);first|done|rfl|(simp only [List.length_drop,List.length_take];rfl)) ?_
            with_reducible refine (laws_eqSource.calls kj11 _ _ t833 t836 t837 t838 _ _ t853 t856 t857 t858 true _ ?side1 ?side2 ?side3 ?side4 A55.out).mono ?_
            (case side1=> repeat (first|exact (Kd.R_reads' HO_840000.out).2.2|(with_reducible refine Kd.C_alloc ?_ _)|(with_reducible refine Kd.C_drewN ?_ _)|(with_reducible refine Kd.C_drew ?_)))
            (case side2=> exact (Kd.R_reads' HO_840000.out).2.1)
            (case side3=> repeat (first|exact (Kd.R_reads' HO855.out).2.2|(with_reducible refine Kd.C_alloc ?_ _)|(with_reducible refine Kd.C_drewN ?_ _)|(with_reducible refine Kd.C_drew ?_)))
            (case side4=> exact (Kd.R_reads' HO855.out).2.1)
            rintro e w62 ⟨rfl,hb⟩
            refine ⟨_,rfl,?_⟩
            have n0_:=Aside0.mk (Kd.R_below (by (with_reducible repeat (first|apply Kd.R_alloc|apply Kd.R_drewN|apply Kd.R_drew));exact HO_7.out) hb)
            have n1_:=Aside0.mk (Kd.R_below (by (with_reducible repeat (first|apply Kd.R_alloc|apply Kd.R_drewN|apply Kd.R_drew));exact HO_11.out) hb)
            have n2_:=Aside0.mk (Kd.R_below (by (with_reducible repeat (first|apply Kd.R_alloc|apply Kd.R_drewN|apply Kd.R_drew));exact HO_833000.out) hb)
            have n3_:=Aside0.mk (Kd.R_below (by (with_reducible repeat (first|apply Kd.R_alloc|apply Kd.R_drewN|apply Kd.R_drew));exact HO_840000.out) hb)
            have n4_:=Aside0.mk (Kd.R_below (by (with_reducible repeat (first|apply Kd.R_alloc|apply Kd.R_drewN|apply Kd.R_drew));exact HO_851000.out) hb)
            have n5_:=Aside0.mk (Kd.R_below (by (with_reducible repeat (first|apply Kd.R_alloc|apply Kd.R_drewN|apply Kd.R_drew));exact HO855.out) hb)
            have n6_:=Aside0.mk (blk_below (g:=gb814) (o:= .cells #[.slice A0_0 l0_0.length c0_0,.int .i64 a0_1,.string a0_2,.int .i64 a0_3] 61 (0,0)) (by (with_reducible repeat (first|apply bN|apply bd|apply bA));exact BK814.out) hb)
            have n7_:=Aside0.mk (blk_below (g:=gb832) (o:= .cells #[.slice Ao21 t822.length co21,.int .i64 t825,.string t826,.int .i64 t827] 36 (0,0)) (by (with_reducible repeat (first|apply bN|apply bd|apply bA));exact BK832.out) hb)
            have n8_:=Aside0.mk (blk_below (g:=gb839) (o:= .cells #[.slice Ao27 t833.length co27,.int .i64 t836,.string t837,.int .i64 t838] 36 (0,0)) (by (with_reducible repeat (first|apply bN|apply bd|apply bA));exact BK839.out) hb)
            have n9_:=Aside0.mk (blk_below (g:=gb850) (o:= .cells #[.slice Ao33 t840.length co33,.int .i64 t843,.string t844,.int .i64 t845] 36 (0,0)) (by (with_reducible repeat (first|apply bN|apply bd|apply bA));exact BK850.out) hb)
            have n10_:=Aside0.mk (below_step (by repeat (first|(with_reducible first|exact HB.out|apply below_alloc|apply pw_below_drewN|apply below_drew1|refine below_set ?_ GE814.out|refine below_set ?_ GE832.out|refine below_set ?_ GE839.out|refine below_set ?_ GE850.out)|exact HB.out)) hb)
            clear HO_7
            clear HO_11
            clear HO_833000
            clear HO_840000
            clear HO_851000
            clear HO855
            clear BK814
            clear BK832
            clear BK839
            clear BK850
            clear HB
            have HO_7:=n0_
            have HO_11:=n1_
            have HO_833000:=n2_
            have HO_840000:=n3_
            have HO_851000:=n4_
            have HO855:=n5_
            have BK814:=n6_
            have BK832:=n7_
            have BK839:=n8_
            have BK850:=n9_
            have HB:=n10_
            clear n0_ n1_ n2_ n3_ n4_ n5_ n6_ n7_ n8_ n9_ n10_
            (try clear hb)
            (try clear hb2)
            (try clear hk)
            (try clear hi)
            refine hK.out _ _ ⟨(blk_cell BK839.out 0).trans rfl,(blk_cell BK839.out 1).trans rfl,(blk_cell BK839.out 2).trans rfl,(blk_cell BK839.out 3).trans rfl,(blk_cell BK814.out 0).trans rfl,(blk_cell BK814.out 1).trans rfl,(blk_cell BK814.out 2).trans rfl,(blk_cell BK814.out 3).trans rfl⟩ (fun hHeld=> ?_)
            clear hK K
            refine norm_ (a':=?_) ?_ ?_
            rotate_left
            · show Act.put _ (some 59) _=_
              simp only [Act.put,List.setIfInBounds_toArray,List.set_cons_zero,List.set_cons_succ,i64_w,i32_w]
              rfl
            refine pure_ (i:=4) (N:=some 60) (v:=?_) (a':=?_) #[true,true,true,true,true] rfl rfl (by kernel_rfl) (fun _ _ _ h=> h) (Or.inl ⟨by rfl,?_⟩) ?_ ?_
            rotate_left
            · intro w'
              go_simp
              with_reducible rfl
            rotate_left
            · simp only [Act.put,List.setIfInBounds_toArray,List.set_cons_zero,List.set_cons_succ,i64_w,i32_w]
              rfl
            refine done_ (by kernel_rfl) ?_
            have hnb63:=NB839_814.out
            have hnc63:=NB814_839.out
            have hnb64:=NB839_832.out
            have hnc64:=NB832_839.out
            have hnb65:=NB839_850.out
            have hnc65:=NB850_839.out
            have hcz66_0:w62.cell? ⟨gb839,0,none⟩=some (.slice Ao27 t833.length co27):=(blk_cell BK839.out 0).trans rfl
            have hcz66_1:w62.cell? ⟨gb839,1,none⟩=some (.int .i64 t836):=(blk_cell BK839.out 1).trans rfl
            have hcz66_2:w62.cell? ⟨gb839,2,none⟩=some (.string t837):=(blk_cell BK839.out 2).trans rfl
            have hcz66_3:w62.cell? ⟨gb839,3,none⟩=some (.int .i64 t838):=(blk_cell BK839.out 3).trans rfl
            have hfz66_0:=blk_frozen BK839.out 0
            have hfz66_1:=blk_frozen BK839.out 1
            have hfz66_2:=blk_frozen BK839.out 2
            have hfz66_3:=blk_frozen BK839.out 3
            go_upto_region 14 with (first|((with_reducible refine gate_callee (f:=37) rfl ?_);refine goesL_ (some 63) rfl rfl Try.func37 (by kernel_rfl) rfl #[.agg #[.slice Ao27 t833.length co27,.int .i64 t836,.string t837,.int .i64 t838],.int .i64 1] rfl (by (try simp only [List.map_toArray,List.map_cons,List.map_nil]);first|done|rfl|(simp only [List.length_drop,List.length_take];rfl)) ?_;(with_reducible refine (laws_markSource.calls kj11 (fun k_=> some k_=(.slice Ao27 t833.length co27:Value).ownBlock) (.slice Ao27 t833.length co27) t833 t836 t837 t838 1 t860 t861 w _ ?side1 ?side2 A57.out).mono ?_);(case side1=> repeat (first|(with_reducible first|exact HB.out|apply below_alloc|apply pw_below_drewN|apply below_drew1|refine below_set ?_ GE814.out|refine below_set ?_ GE832.out|refine below_set ?_ GE839.out|refine below_set ?_ GE850.out)|exact HB.out));(case side2=> exact Kd.R_tight rfl HO_840000.out);rintro e w67 ⟨rfl,hy0,hb,hkp⟩;refine ⟨_,rfl,?_⟩;have n0_:=Aside0.mk (Kd.R_mono (ok':=fun k_=> some k_ ≠ (v847:Value).ownBlock ∧ some k_ ≠ (.slice Ao21 t822.length co21:Value).ownBlock ∧ some k_ ≠ (.slice Ao27 t833.length co27:Value).ownBlock ∧ some k_ ≠ (.slice Ao33 t840.length co33:Value).ownBlock ∧ some k_ ≠ (.slice Ao61 t853.length co61:Value).ownBlock) (Kd.R_keptB (HO_7.out) hkp (fun k_ hk_ hs_=> (hk_.1.2.2.1) hs_)) (fun k_ hk_=> ⟨hk_.1.1.1,hk_.1.1.2.1,hk_.1.1.2.2.1,hk_.1.1.2.2.2,hk_.1.2⟩));have n1_:=Aside0.mk (Kd.R_mono (ok':=fun k_=> some k_ ≠ (v829:Value).ownBlock ∧ some k_ ≠ (.slice Ao21 t822.length co21:Value).ownBlock ∧ some k_ ≠ (.slice Ao27 t833.length co27:Value).ownBlock ∧ some k_ ≠ (.slice Ao33 t840.length co33:Value).ownBlock ∧ some k_ ≠ (.slice Ao61 t853.length co61:Value).ownBlock) (Kd.R_keptB (HO_11.out) hkp (fun k_ hk_ hs_=> (hk_.1.2.2.1) hs_)) (fun k_ hk_=> ⟨hk_.1.1.1,hk_.1.1.2.1,hk_.1.1.2.2.1,hk_.1.1.2.2.2,hk_.1.2⟩));have n2_:=Aside0.mk (Kd.R_mono (ok':=fun k_=> some k_ ≠ (v829:Value).ownBlock ∧ some k_ ≠ (v847:Value).ownBlock ∧ some k_ ≠ (.slice Ao27 t833.length co27:Value).ownBlock ∧ some k_ ≠ (.slice Ao33 t840.length co33:Value).ownBlock ∧ some k_ ≠ (.slice Ao61 t853.length co61:Value).ownBlock) (Kd.R_keptB (HO_833000.out) hkp (fun k_ hk_ hs_=> (hk_.1.2.2.1) hs_)) (fun k_ hk_=> ⟨hk_.1.1.1,hk_.1.1.2.1,hk_.1.1.2.2.1,hk_.1.1.2.2.2,hk_.1.2⟩));have n3_:=Aside0.mk (Kd.R_reok rfl hy0 (fun k_ e_=> HO_840000.out.1 k_ e_));have n4_:=Aside0.mk (Kd.R_mono (ok':=fun k_=> some k_ ≠ (v829:Value).ownBlock ∧ some k_ ≠ (v847:Value).ownBlock ∧ some k_ ≠ (.slice Ao21 t822.length co21:Value).ownBlock ∧ some k_ ≠ (.slice Ao27 t833.length co27:Value).ownBlock ∧ some k_ ≠ (.slice Ao61 t853.length co61:Value).ownBlock) (Kd.R_keptB (HO_851000.out) hkp (fun k_ hk_ hs_=> (hk_.1.2.2.2) hs_)) (fun k_ hk_=> ⟨hk_.1.1.1,hk_.1.1.2.1,hk_.1.1.2.2.1,hk_.1.1.2.2.2,hk_.1.2⟩));have n5_:=Aside0.mk (blk_kept (by (with_reducible repeat (first|apply bN|apply bd|apply bA));exact BK814.out) hkp (fun hs_=> (fun e_=> (Kd.R_ne HO_840000.out BK814.out (by decide)) e_) hs_));have n6_:=Aside0.mk (blk_kept (by (with_reducible repeat (first|apply bN|apply bd|apply bA));exact BK832.out) hkp (fun hs_=> (fun e_=> (Kd.R_ne HO_840000.out BK832.out (by decide)) e_) hs_));have n7_:=Aside0.mk (blk_kept (by (with_reducible repeat (first|apply bN|apply bd|apply bA));exact BK839.out) hkp (fun hs_=> (fun e_=> (Kd.R_ne HO_840000.out BK839.out (by decide)) e_) hs_));have n8_:=Aside0.mk (blk_kept (by (with_reducible repeat (first|apply bN|apply bd|apply bA));exact BK850.out) hkp (fun hs_=> (fun e_=> (Kd.R_ne HO_840000.out BK850.out (by decide)) e_) hs_));have n9_:=Aside0.mk (Kd.R_mono (ok':=fun k_=> some k_ ≠ (v829:Value).ownBlock ∧ some k_ ≠ (v847:Value).ownBlock ∧ some k_ ≠ (.slice Ao21 t822.length co21:Value).ownBlock ∧ some k_ ≠ (.slice Ao27 t833.length co27:Value).ownBlock ∧ some k_ ≠ (.slice Ao33 t840.length co33:Value).ownBlock) (Kd.R_keptB (HO855.out) hkp (fun k_ hk_ hs_=> (hk_.1.2) hs_)) (fun k_ hk_=> ⟨hk_.1.1.1.1.1.2,hk_.1.1.1.1.2,hk_.1.1.1.2,hk_.1.1.2,hk_.1.2⟩));have n10_:=Aside0.mk (hb);clear HO_7;clear HO_11;clear HO_833000;clear HO_840000;clear HO_851000;clear BK814;clear BK832;clear BK839;clear BK850;clear HO855;clear HB;have HO_7:=n0_;have HO_11:=n1_;have HO_833000:=n2_;have HO_840000:=n3_;have HO_851000:=n4_;have BK814:=n5_;have BK832:=n6_;have BK839:=n7_;have BK850:=n8_;have HO855:=n9_;have HB:=n10_;clear n0_ n1_ n2_ n3_ n4_ n5_ n6_ n7_ n8_ n9_ n10_;(try clear hb);(try clear hkp);(try clear hy0)))
            (try simp only [Act.put,List.setIfInBounds_toArray,List.set_cons_zero,List.set_cons_succ])
            go_cut [82] (fun v82 wc=> ∃ (kq:Nat) (x82_57:Bool),v82= .bool x82_57 ∧ Aside0 (laws_FnExactTakeSome.j1 kq a1 t828 t831 t846 x82_57 l0_0 a0_1 a0_2 a0_3 t822 t825 t826 t827 t840 t843 t844 t845=some r) ∧ Aside0 (kq ≤ kj11) ∧ Aside0 (Kd.R k79 79 wc w.heap.size (fun k_=> some k_ ≠ (v847:Value).ownBlock ∧ some k_ ≠ ((.slice Ao21 t822.length co21):Value).ownBlock ∧ some k_ ≠ ((.slice Ao27 t833.length co27):Value).ownBlock ∧ some k_ ≠ ((.slice Ao33 t840.length co33):Value).ownBlock) v829 t828) ∧ Aside0 (Kd.R k79 79 wc w.heap.size (fun k_=> some k_ ≠ (v829:Value).ownBlock ∧ some k_ ≠ ((.slice Ao21 t822.length co21):Value).ownBlock ∧ some k_ ≠ ((.slice Ao27 t833.length co27):Value).ownBlock ∧ some k_ ≠ ((.slice Ao33 t840.length co33):Value).ownBlock) v847 t846) ∧ Aside0 (Kd.R k79 79 wc w.heap.size (fun k_=> some k_ ≠ (v829:Value).ownBlock ∧ some k_ ≠ (v847:Value).ownBlock ∧ some k_ ≠ ((.slice Ao27 t833.length co27):Value).ownBlock ∧ some k_ ≠ ((.slice Ao33 t840.length co33):Value).ownBlock) (.slice Ao21 t822.length co21) t822) ∧ Aside0 (Kd.R k79 79 wc w.heap.size (fun k_=> some k_ ≠ (v829:Value).ownBlock ∧ some k_ ≠ (v847:Value).ownBlock ∧ some k_ ≠ ((.slice Ao21 t822.length co21):Value).ownBlock ∧ some k_ ≠ ((.slice Ao33 t840.length co33):Value).ownBlock) (.slice Ao27 t833.length co27) t861) ∧ Aside0 (Kd.R k79 79 wc w.heap.size (fun k_=> some k_ ≠ (v829:Value).ownBlock ∧ some k_ ≠ (v847:Value).ownBlock ∧ some k_ ≠ ((.slice Ao21 t822.length co21):Value).ownBlock ∧ some k_ ≠ ((.slice Ao27 t833.length co27):Value).ownBlock) (.slice Ao33 t840.length co33) t840) ∧ Aside0 (wc.heap[gb814]?=some (.cells #[(.slice A0_0 l0_0.length c0_0),.int .i64 a0_1,.string a0_2,.int .i64 a0_3] 61 (0,0))) ∧ Aside0 (wc.heap[gb832]?=some (.cells #[(.slice Ao21 t822.length co21),.int .i64 t825,.string t826,.int .i64 t827] 36 (0,0))) ∧ Aside0 (wc.heap[gb839]?=some (.cells #[(.slice Ao27 t833.length co27),.int .i64 t836,.string t837,.int .i64 t838] 36 (0,0))) ∧ Aside0 (wc.heap[gb850]?=some (.cells #[(.slice Ao33 t840.length co33),.int .i64 t843,.string t844,.int .i64 t845] 36 (0,0))) ∧ Aside0 (Below w.heap.size w wc))
            case first=>
              have H:=HC58.out
              clear HC58
              by_cases c68:t860 < 0
              · rw [if_pos c68] at H
                exact absurd H (by simp)
              · rw [if_neg c68] at H
                have c68b0:decide (t860 < 0)=false:=decide_eq_false c68
                clear c68
                (first|rw [c68b0]|(simp only [i64_w,i32_w];rw [c68b0])|skip)
                replace H:=Option.bind_eq_some_iff.mp H
                obtain ⟨t862,A690,H⟩:=H
                replace H:(if t862=true then ((laws_eqExtS.f kj11 t846 t828).bind fun t863=> (if t863=true then (laws_FnExactTakeSome.j1 kj11 a1 t828 t831 t846 (t849 !=t831) l0_0 a0_1 a0_2 a0_3 t822 t825 t826 t827 t840 t843 t844 t845) else (none))) else (none))=some r:=H
                have A69:=Aside0.mk A690
                clear A690
                by_cases c70:t862=true
                · subst c70
                  have H1:((laws_eqExtS.f kj11 t846 t828).bind fun t863=> (if t863=true then (laws_FnExactTakeSome.j1 kj11 a1 t828 t831 t846 (t849 !=t831) l0_0 a0_1 a0_2 a0_3 t822 t825 t826 t827 t840 t843 t844 t845) else (none)))=some r:=by rw [if_pos rfl] at H;exact H
                  clear H
                  have H:=H1
                  clear H1
                  replace H:=Option.bind_eq_some_iff.mp H
                  obtain ⟨t863,A710,H⟩:=H
                  replace H:(if t863=true then (laws_FnExactTakeSome.j1 kj11 a1 t828 t831 t846 (t849 !=t831) l0_0 a0_1 a0_2 a0_3 t822 t825 t826 t827 t840 t843 t844 t845) else (none))=some r:=H
                  have A71:=Aside0.mk A710
                  clear A710
                  by_cases c72:t863=true
                  · subst c72
                    have H1:(laws_FnExactTakeSome.j1 kj11 a1 t828 t831 t846 (t849 !=t831) l0_0 a0_1 a0_2 a0_3 t822 t825 t826 t827 t840 t843 t844 t845)=some r:=by rw [if_pos rfl] at H;exact H
                    clear H
                    have H:=H1
                    clear H1
                    have H':=Aside0.mk H
                    clear H
                    have hnb73:=NB850_814.out
                    have hnc73:=NB814_850.out
                    have hnb74:=NB850_832.out
                    have hnc74:=NB832_850.out
                    have hnb75:=NB850_839.out
                    have hnc75:=NB839_850.out
                    have hcz76_0:w67.cell? ⟨gb850,0,none⟩=some (.slice Ao33 t840.length co33):=(blk_cell BK850.out 0).trans rfl
                    have hcz76_1:w67.cell? ⟨gb850,1,none⟩=some (.int .i64 t843):=(blk_cell BK850.out 1).trans rfl
                    have hcz76_2:w67.cell? ⟨gb850,2,none⟩=some (.string t844):=(blk_cell BK850.out 2).trans rfl
                    have hcz76_3:w67.cell? ⟨gb850,3,none⟩=some (.int .i64 t845):=(blk_cell BK850.out 3).trans rfl
                    have hfz76_0:=blk_frozen BK850.out 0
                    have hfz76_1:=blk_frozen BK850.out 1
                    have hfz76_2:=blk_frozen BK850.out 2
                    have hfz76_3:=blk_frozen BK850.out 3
                    have hnb77:=NB832_814.out
                    have hnc77:=NB814_832.out
                    have hnb78:=NB832_839.out
                    have hnc78:=NB839_832.out
                    have hcz79_0:w67.cell? ⟨gb832,0,none⟩=some (.slice Ao21 t822.length co21):=(blk_cell BK832.out 0).trans rfl
                    have hcz79_1:w67.cell? ⟨gb832,1,none⟩=some (.int .i64 t825):=(blk_cell BK832.out 1).trans rfl
                    have hcz79_2:w67.cell? ⟨gb832,2,none⟩=some (.string t826):=(blk_cell BK832.out 2).trans rfl
                    have hcz79_3:w67.cell? ⟨gb832,3,none⟩=some (.int .i64 t827):=(blk_cell BK832.out 3).trans rfl
                    have hfz79_0:=blk_frozen BK832.out 0
                    have hfz79_1:=blk_frozen BK832.out 1
                    have hfz79_2:=blk_frozen BK832.out 2
                    have hfz79_3:=blk_frozen BK832.out 3
                    go_wp2_with (first|(go_at_call 36;(with_reducible refine (laws_eqSource.calls kj11 _ _ t840 t843 t844 t845 _ _ t822 t825 t826 t827 true _ ?side1 ?side2 ?side3 ?side4 A69.out).mono ?_);(case side1=> repeat (first|exact (Kd.R_reads' HO_851000.out).2.2|(with_reducible refine Kd.C_alloc ?_ _)|(with_reducible refine Kd.C_drewN ?_ _)|(with_reducible refine Kd.C_drew ?_)));(case side2=> exact (Kd.R_reads' HO_851000.out).2.1);(case side3=> repeat (first|exact (Kd.R_reads' HO_833000.out).2.2|(with_reducible refine Kd.C_alloc ?_ _)|(with_reducible refine Kd.C_drewN ?_ _)|(with_reducible refine Kd.C_drew ?_)));(case side4=> exact (Kd.R_reads' HO_833000.out).2.1);rintro e w80 ⟨rfl,hb⟩;have n0_:=Aside0.mk (Kd.R_below (by (with_reducible repeat (first|apply Kd.R_alloc|apply Kd.R_drewN|apply Kd.R_drew));exact HO_7.out) hb);have n1_:=Aside0.mk (Kd.R_below (by (with_reducible repeat (first|apply Kd.R_alloc|apply Kd.R_drewN|apply Kd.R_drew));exact HO_11.out) hb);have n2_:=Aside0.mk (Kd.R_below (by (with_reducible repeat (first|apply Kd.R_alloc|apply Kd.R_drewN|apply Kd.R_drew));exact HO_833000.out) hb);have n3_:=Aside0.mk (Kd.R_below (by (with_reducible repeat (first|apply Kd.R_alloc|apply Kd.R_drewN|apply Kd.R_drew));exact HO_840000.out) hb);have n4_:=Aside0.mk (Kd.R_below (by (with_reducible repeat (first|apply Kd.R_alloc|apply Kd.R_drewN|apply Kd.R_drew));exact HO_851000.out) hb);have n5_:=Aside0.mk (Kd.R_below (by (with_reducible repeat (first|apply Kd.R_alloc|apply Kd.R_drewN|apply Kd.R_drew));exact HO855.out) hb);have n6_:=Aside0.mk (blk_below (g:=gb814) (o:= .cells #[.slice A0_0 l0_0.length c0_0,.int .i64 a0_1,.string a0_2,.int .i64 a0_3] 61 (0,0)) (by (with_reducible repeat (first|apply bN|apply bd|apply bA));exact BK814.out) hb);have n7_:=Aside0.mk (blk_below (g:=gb832) (o:= .cells #[.slice Ao21 t822.length co21,.int .i64 t825,.string t826,.int .i64 t827] 36 (0,0)) (by (with_reducible repeat (first|apply bN|apply bd|apply bA));exact BK832.out) hb);have n8_:=Aside0.mk (blk_below (g:=gb839) (o:= .cells #[.slice Ao27 t833.length co27,.int .i64 t836,.string t837,.int .i64 t838] 36 (0,0)) (by (with_reducible repeat (first|apply bN|apply bd|apply bA));exact BK839.out) hb);have n9_:=Aside0.mk (blk_below (g:=gb850) (o:= .cells #[.slice Ao33 t840.length co33,.int .i64 t843,.string t844,.int .i64 t845] 36 (0,0)) (by (with_reducible repeat (first|apply bN|apply bd|apply bA));exact BK850.out) hb);have n10_:=Aside0.mk (below_step (by repeat (first|(with_reducible first|exact HB.out|apply below_alloc|apply pw_below_drewN|apply below_drew1|refine below_set ?_ GE814.out|refine below_set ?_ GE832.out|refine below_set ?_ GE839.out|refine below_set ?_ GE850.out)|exact HB.out)) hb);clear HO_7;clear HO_11;clear HO_833000;clear HO_840000;clear HO_851000;clear HO855;clear BK814;clear BK832;clear BK839;clear BK850;clear HB;have HO_7:=n0_;have HO_11:=n1_;have HO_833000:=n2_;have HO_840000:=n3_;have HO_851000:=n4_;have HO855:=n5_;have BK814:=n6_;have BK832:=n7_;have BK839:=n8_;have BK850:=n9_;have HB:=n10_;clear n0_ n1_ n2_ n3_ n4_ n5_ n6_ n7_ n8_ n9_ n10_;(try clear hb);(try clear hb2);(try clear hk);(try clear hi);obtain ⟨Ao81,co81,eo81⟩:=Kd.R_slice HO_11.out;subst eo81;obtain ⟨Ao82,co82,eo82⟩:=Kd.R_slice HO_7.out;subst eo82)|(go_at_call 63;(with_reducible refine (laws_eqExtS.calls kj11 _ _ t846 _ _ t828 true _ ?side1 ?side2 ?side3 ?side4 A71.out).mono ?_);(case side1=> repeat (first|exact (Kd.R_reads' HO_11.out).2.2|(with_reducible refine Kd.C_alloc ?_ _)|(with_reducible refine Kd.C_drewN ?_ _)|(with_reducible refine Kd.C_drew ?_)));(case side2=> exact (Kd.R_reads' HO_11.out).2.1);(case side3=> repeat (first|exact (Kd.R_reads' HO_7.out).2.2|(with_reducible refine Kd.C_alloc ?_ _)|(with_reducible refine Kd.C_drewN ?_ _)|(with_reducible refine Kd.C_drew ?_)));(case side4=> exact (Kd.R_reads' HO_7.out).2.1);rintro e w83 ⟨rfl,hb⟩;have n0_:=Aside0.mk (Kd.R_below (by (with_reducible repeat (first|apply Kd.R_alloc|apply Kd.R_drewN|apply Kd.R_drew));exact HO_7.out) hb);have n1_:=Aside0.mk (Kd.R_below (by (with_reducible repeat (first|apply Kd.R_alloc|apply Kd.R_drewN|apply Kd.R_drew));exact HO_11.out) hb);have n2_:=Aside0.mk (Kd.R_below (by (with_reducible repeat (first|apply Kd.R_alloc|apply Kd.R_drewN|apply Kd.R_drew));exact HO_833000.out) hb);have n3_:=Aside0.mk (Kd.R_below (by (with_reducible repeat (first|apply Kd.R_alloc|apply Kd.R_drewN|apply Kd.R_drew));exact HO_840000.out) hb);have n4_:=Aside0.mk (Kd.R_below (by (with_reducible repeat (first|apply Kd.R_alloc|apply Kd.R_drewN|apply Kd.R_drew));exact HO_851000.out) hb);have n5_:=Aside0.mk (Kd.R_below (by (with_reducible repeat (first|apply Kd.R_alloc|apply Kd.R_drewN|apply Kd.R_drew));exact HO855.out) hb);have n6_:=Aside0.mk (blk_below (g:=gb814) (o:= .cells #[.slice A0_0 l0_0.length c0_0,.int .i64 a0_1,.string a0_2,.int .i64 a0_3] 61 (0,0)) (by (with_reducible repeat (first|apply bN|apply bd|apply bA));exact BK814.out) hb);have n7_:=Aside0.mk (blk_below (g:=gb832) (o:= .cells #[.slice Ao21 t822.length co21,.int .i64 t825,.string t826,.int .i64 t827] 36 (0,0)) (by (with_reducible repeat (first|apply bN|apply bd|apply bA));exact BK832.out) hb);have n8_:=Aside0.mk (blk_below (g:=gb839) (o:= .cells #[.slice Ao27 t833.length co27,.int .i64 t836,.string t837,.int .i64 t838] 36 (0,0)) (by (with_reducible repeat (first|apply bN|apply bd|apply bA));exact BK839.out) hb);have n9_:=Aside0.mk (blk_below (g:=gb850) (o:= .cells #[.slice Ao33 t840.length co33,.int .i64 t843,.string t844,.int .i64 t845] 36 (0,0)) (by (with_reducible repeat (first|apply bN|apply bd|apply bA));exact BK850.out) hb);have n10_:=Aside0.mk (below_step (by repeat (first|(with_reducible first|exact HB.out|apply below_alloc|apply pw_below_drewN|apply below_drew1|refine below_set ?_ GE814.out|refine below_set ?_ GE832.out|refine below_set ?_ GE839.out|refine below_set ?_ GE850.out)|exact HB.out)) hb);clear HO_7;clear HO_11;clear HO_833000;clear HO_840000;clear HO_851000;clear HO855;clear BK814;clear BK832;clear BK839;clear BK850;clear HB;have HO_7:=n0_;have HO_11:=n1_;have HO_833000:=n2_;have HO_840000:=n3_;have HO_851000:=n4_;have HO855:=n5_;have BK814:=n6_;have BK832:=n7_;have BK839:=n8_;have BK850:=n9_;have HB:=n10_;clear n0_ n1_ n2_ n3_ n4_ n5_ n6_ n7_ n8_ n9_ n10_;(try clear hb);(try clear hb2);(try clear hk);(try clear hi)))
                    go_meet
                    case rel=> exact ⟨_,((t849 !=t831)),(by first|rfl|(simp;done)|(simp [*];done)),H',⟨by have:=HJ11.out;first|omega|exact Nat.le_refl _⟩,⟨by (with_reducible repeat (first|apply Kd.R_alloc|apply Kd.R_drewN|apply Kd.R_drew));exact Kd.R_mono HO_7.out (fun _ hk=> ⟨hk.1,⟨hk.2.1,⟨hk.2.2.1,hk.2.2.2.1⟩⟩⟩)⟩,⟨by (with_reducible repeat (first|apply Kd.R_alloc|apply Kd.R_drewN|apply Kd.R_drew));exact Kd.R_mono HO_11.out (fun _ hk=> ⟨hk.1,⟨hk.2.1,⟨hk.2.2.1,hk.2.2.2.1⟩⟩⟩)⟩,⟨by (with_reducible repeat (first|apply Kd.R_alloc|apply Kd.R_drewN|apply Kd.R_drew));exact Kd.R_mono HO_833000.out (fun _ hk=> ⟨hk.1,⟨hk.2.1,⟨hk.2.2.1,hk.2.2.2.1⟩⟩⟩)⟩,⟨by (with_reducible repeat (first|apply Kd.R_alloc|apply Kd.R_drewN|apply Kd.R_drew));exact Kd.R_mono HO_840000.out (fun _ hk=> ⟨hk.1.1,⟨hk.1.2.1,⟨hk.1.2.2.1,hk.1.2.2.2⟩⟩⟩)⟩,⟨by (with_reducible repeat (first|apply Kd.R_alloc|apply Kd.R_drewN|apply Kd.R_drew));exact Kd.R_mono HO_851000.out (fun _ hk=> ⟨hk.1,⟨hk.2.1,⟨hk.2.2.1,hk.2.2.2.1⟩⟩⟩)⟩,⟨by (with_reducible repeat (first|apply bN|apply bd|apply bA));exact BK814.out⟩,⟨by (with_reducible repeat (first|apply bN|apply bd|apply bA));exact BK832.out⟩,⟨by (with_reducible repeat (first|apply bN|apply bd|apply bA));exact BK839.out⟩,⟨by (with_reducible repeat (first|apply bN|apply bd|apply bA));exact BK850.out⟩,⟨by repeat (first|(with_reducible first|exact HB.out|apply below_alloc|apply pw_below_drewN|apply below_drew1|refine below_set ?_ GE814.out|refine below_set ?_ GE832.out|refine below_set ?_ GE839.out|refine below_set ?_ GE850.out)|exact HB.out)⟩⟩
                  · replace c72:=Bool.eq_false_iff.mpr c72
                    subst c72
                    have H1:(none)=some r:=by rw [if_neg (show ¬ (false=true) by decide)] at H;exact H
                    clear H
                    have H:=H1
                    clear H1
                    exact absurd H (by simp)
                · replace c70:=Bool.eq_false_iff.mpr c70
                  subst c70
                  have H1:(none)=some r:=by rw [if_neg (show ¬ (false=true) by decide)] at H;exact H
                  clear H
                  have H:=H1
                  clear H1
                  exact absurd H (by simp)
            case rest=>
              clear HC58
              try clear c1
              try clear c2
              try clear p2
              try clear c3
              try clear c4
              try clear c4b0
              try clear c5
              try clear c6
              try clear c7
              try clear c19
              try clear c22
              try clear c28
              try clear c29
              try clear c34
              try clear c35
              try clear c36
              try clear c37
              try clear c39
              try clear c41
              try clear c42
              try clear c43
              try clear c44
              try clear c46
              try clear c47
              try clear c53
              try clear c55
              try clear c56
              try clear c63
              try clear c64
              try clear c65
              try clear c68
              try clear c68b0
              try clear c70
              try clear c72
              try clear c73
              try clear c74
              try clear c75
              try clear c77
              try clear c78
              try clear hcz14_0
              try clear hcz14_1
              try clear hcz14_2
              try clear hcz14_3
              try clear hcz16_0
              try clear hcz16_1
              try clear hcz16_2
              try clear hcz16_3
              try clear hcz23_0
              try clear hcz23_1
              try clear hcz23_2
              try clear hcz23_3
              try clear hcz24_0
              try clear hcz24_1
              try clear hcz24_2
              try clear hcz24_3
              try clear hcz30_0
              try clear hcz30_1
              try clear hcz30_2
              try clear hcz30_3
              try clear hcz37_0
              try clear hcz37_1
              try clear hcz37_2
              try clear hcz37_3
              try clear hcz45_0
              try clear hcz45_1
              try clear hcz45_2
              try clear hcz45_3
              try clear hcz48_0
              try clear hcz48_1
              try clear hcz48_2
              try clear hcz48_3
              try clear hcz66_0
              try clear hcz66_1
              try clear hcz66_2
              try clear hcz66_3
              try clear hcz6_0
              try clear hcz6_1
              try clear hcz6_2
              try clear hcz6_3
              try clear hcz76_0
              try clear hcz76_1
              try clear hcz76_2
              try clear hcz76_3
              try clear hcz79_0
              try clear hcz79_1
              try clear hcz79_2
              try clear hcz79_3
              try clear hfz14_0
              try clear hfz14_1
              try clear hfz14_2
              try clear hfz14_3
              try clear hfz16_0
              try clear hfz16_1
              try clear hfz16_2
              try clear hfz16_3
              try clear hfz23_0
              try clear hfz23_1
              try clear hfz23_2
              try clear hfz23_3
              try clear hfz24_0
              try clear hfz24_1
              try clear hfz24_2
              try clear hfz24_3
              try clear hfz30_0
              try clear hfz30_1
              try clear hfz30_2
              try clear hfz30_3
              try clear hfz37_0
              try clear hfz37_1
              try clear hfz37_2
              try clear hfz37_3
              try clear hfz45_0
              try clear hfz45_1
              try clear hfz45_2
              try clear hfz45_3
              try clear hfz48_0
              try clear hfz48_1
              try clear hfz48_2
              try clear hfz48_3
              try clear hfz66_0
              try clear hfz66_1
              try clear hfz66_2
              try clear hfz66_3
              try clear hfz6_0
              try clear hfz6_1
              try clear hfz6_2
              try clear hfz6_3
              try clear hfz76_0
              try clear hfz76_1
              try clear hfz76_2
              try clear hfz76_3
              try clear hfz79_0
              try clear hfz79_1
              try clear hfz79_2
              try clear hfz79_3
              try clear p2
              obtain ⟨kq,x82_57,rfl,HA,HJ57,HO_7,HO_11,HO_833000,HO_840000,HO_851000,BK814,BK832,BK839,BK850,HB⟩:=hcut
              have hl840000_57:=(Kd.R_reads' HO_840000.out).1
              rw [hl840000_57] at HO_840000
              (try simp only [hl840000_57])
              (try simp only [hl840000_57] at BK814)
              (try simp only [hl840000_57] at BK832)
              (try simp only [hl840000_57] at BK839)
              (try simp only [hl840000_57] at BK850)
              (try simp only [hl840000_57] at HO_7)
              (try simp only [hl840000_57] at HO_11)
              (try simp only [hl840000_57] at HO_833000)
              (try simp only [hl840000_57] at HO_851000)
              cases kq with
              |zero=> exact absurd HA.out (by simp [laws_FnExactTakeSome.j1])
              |succ kj57=>
                have H:=HA.out
                clear HA
                simp only [laws_FnExactTakeSome.j1] at H
                by_cases c84:x82_57=true
                · subst c84
                  have H1:(none)=some r:=by rw [if_pos rfl] at H;exact H
                  clear H
                  have H:=H1
                  clear H1
                  exact absurd H (by simp)
                · replace c84:=Bool.eq_false_iff.mpr c84
                  subst c84
                  have H1:((laws_markSource.f kj57 t840 t843 t844 t845 1).bind fun bt864=> ((laws_markExtS.f kj57 t846 bt864.1).bind fun bt866=> ((laws_heldSource.f kj57 bt864.2 t843 t844 t845 1).bind fun t868=> (if t868 < 0 then (none) else ((laws_heldExtS.f kj57 bt866.2 t868).bind fun t869=> (if t869 < 0 then (none) else (if t869=bt866.1 then ((laws_toSource.f kj57 l0_0 a0_1 a0_2 a0_3).bind fun bt870=> ((impl_TakeSome.f bt870.1 bt870.2.1 bt870.2.2.1 bt870.2.2.2 a1).bind fun bt876=> ((laws_eqSource.f kj57 bt876.1 bt876.2.1 bt876.2.2.1 bt876.2.2.2.1 t822 t825 t826 t827).bind fun t887=> (if t887=true then ((laws_eqExtS.f kj57 bt876.2.2.2.2.1 t828).bind fun t888=> (if t888=true then (laws_FnExactTakeSome.j2 kj57 bt866.2 bt866.1 (bt876.2.2.2.2.2 !=t831) bt864.2 t843 t844 t845) else (none))) else (none))))) else (none))))))))=some r:=by rw [if_neg (show ¬ (false=true) by decide)] at H;exact H
                  clear H
                  have H:=H1
                  clear H1
                  replace H:=Option.bind_eq_some_iff.mp H
                  obtain ⟨⟨t864,t865⟩,A850,H⟩:=H
                  replace H:((laws_markExtS.f kj57 t846 t864).bind fun bt866=> ((laws_heldSource.f kj57 t865 t843 t844 t845 1).bind fun t868=> (if t868 < 0 then (none) else ((laws_heldExtS.f kj57 bt866.2 t868).bind fun t869=> (if t869 < 0 then (none) else (if t869=bt866.1 then ((laws_toSource.f kj57 l0_0 a0_1 a0_2 a0_3).bind fun bt870=> ((impl_TakeSome.f bt870.1 bt870.2.1 bt870.2.2.1 bt870.2.2.2 a1).bind fun bt876=> ((laws_eqSource.f kj57 bt876.1 bt876.2.1 bt876.2.2.1 bt876.2.2.2.1 t822 t825 t826 t827).bind fun t887=> (if t887=true then ((laws_eqExtS.f kj57 bt876.2.2.2.2.1 t828).bind fun t888=> (if t888=true then (laws_FnExactTakeSome.j2 kj57 bt866.2 bt866.1 (bt876.2.2.2.2.2 !=t831) t865 t843 t844 t845) else (none))) else (none))))) else (none)))))))=some r:=H
                  have A85:=Aside0.mk A850
                  clear A850
                  replace H:=Option.bind_eq_some_iff.mp H
                  obtain ⟨⟨t866,t867⟩,A860,H⟩:=H
                  replace H:((laws_heldSource.f kj57 t865 t843 t844 t845 1).bind fun t868=> (if t868 < 0 then (none) else ((laws_heldExtS.f kj57 t867 t868).bind fun t869=> (if t869 < 0 then (none) else (if t869=t866 then ((laws_toSource.f kj57 l0_0 a0_1 a0_2 a0_3).bind fun bt870=> ((impl_TakeSome.f bt870.1 bt870.2.1 bt870.2.2.1 bt870.2.2.2 a1).bind fun bt876=> ((laws_eqSource.f kj57 bt876.1 bt876.2.1 bt876.2.2.1 bt876.2.2.2.1 t822 t825 t826 t827).bind fun t887=> (if t887=true then ((laws_eqExtS.f kj57 bt876.2.2.2.2.1 t828).bind fun t888=> (if t888=true then (laws_FnExactTakeSome.j2 kj57 t867 t866 (bt876.2.2.2.2.2 !=t831) t865 t843 t844 t845) else (none))) else (none))))) else (none))))))=some r:=H
                  have A86:=Aside0.mk A860
                  clear A860
                  replace H:=Option.bind_eq_some_iff.mp H
                  obtain ⟨t868,A870,H⟩:=H
                  replace H:(if t868 < 0 then (none) else ((laws_heldExtS.f kj57 t867 t868).bind fun t869=> (if t869 < 0 then (none) else (if t869=t866 then ((laws_toSource.f kj57 l0_0 a0_1 a0_2 a0_3).bind fun bt870=> ((impl_TakeSome.f bt870.1 bt870.2.1 bt870.2.2.1 bt870.2.2.2 a1).bind fun bt876=> ((laws_eqSource.f kj57 bt876.1 bt876.2.1 bt876.2.2.1 bt876.2.2.2.1 t822 t825 t826 t827).bind fun t887=> (if t887=true then ((laws_eqExtS.f kj57 bt876.2.2.2.2.1 t828).bind fun t888=> (if t888=true then (laws_FnExactTakeSome.j2 kj57 t867 t866 (bt876.2.2.2.2.2 !=t831) t865 t843 t844 t845) else (none))) else (none))))) else (none)))))=some r:=H
                  have A87:=Aside0.mk A870
                  clear A870
                  by_cases c88:t868 < 0
                  · rw [if_pos c88] at H
                    exact absurd H (by simp)
                  · rw [if_neg c88] at H
                    have c88b0:decide (t868 < 0)=false:=decide_eq_false c88
                    clear c88
                    replace H:=Option.bind_eq_some_iff.mp H
                    obtain ⟨t869,A890,H⟩:=H
                    replace H:(if t869 < 0 then (none) else (if t869=t866 then ((laws_toSource.f kj57 l0_0 a0_1 a0_2 a0_3).bind fun bt870=> ((impl_TakeSome.f bt870.1 bt870.2.1 bt870.2.2.1 bt870.2.2.2 a1).bind fun bt876=> ((laws_eqSource.f kj57 bt876.1 bt876.2.1 bt876.2.2.1 bt876.2.2.2.1 t822 t825 t826 t827).bind fun t887=> (if t887=true then ((laws_eqExtS.f kj57 bt876.2.2.2.2.1 t828).bind fun t888=> (if t888=true then (laws_FnExactTakeSome.j2 kj57 t867 t866 (bt876.2.2.2.2.2 !=t831) t865 t843 t844 t845) else (none))) else (none))))) else (none)))=some r:=H
                    have A89:=Aside0.mk A890
                    clear A890
                    by_cases c90:t869 < 0
                    · rw [if_pos c90] at H
                      exact absurd H (by simp)
                    · rw [if_neg c90] at H
                      have c90b0:decide (t869 < 0)=false:=decide_eq_false c90
                      clear c90
                      by_cases c91:t869=t866
                      · rw [if_pos c91] at H
                        have c91b0:(t869==t866)=true:=beq_iff_eq.mpr c91
                        have c91b1:(t869 !=t866)=false:=bne_eq_false_iff_eq.mpr c91
                        clear c91
                        replace H:=Option.bind_eq_some_iff.mp H
                        obtain ⟨⟨t870,t873,t874,t875⟩,A920,H⟩:=H
                        replace H:((impl_TakeSome.f t870 t873 t874 t875 a1).bind fun bt876=> ((laws_eqSource.f kj57 bt876.1 bt876.2.1 bt876.2.2.1 bt876.2.2.2.1 t822 t825 t826 t827).bind fun t887=> (if t887=true then ((laws_eqExtS.f kj57 bt876.2.2.2.2.1 t828).bind fun t888=> (if t888=true then (laws_FnExactTakeSome.j2 kj57 t867 t866 (bt876.2.2.2.2.2 !=t831) t865 t843 t844 t845) else (none))) else (none))))=some r:=H
                        have A92:=Aside0.mk A920
                        clear A920
                        replace H:=Option.bind_eq_some_iff.mp H
                        obtain ⟨⟨t876,t879,t880,t881,t882,t885⟩,A930,H⟩:=H
                        replace H:((laws_eqSource.f kj57 t876 t879 t880 t881 t822 t825 t826 t827).bind fun t887=> (if t887=true then ((laws_eqExtS.f kj57 t882 t828).bind fun t888=> (if t888=true then (laws_FnExactTakeSome.j2 kj57 t867 t866 (t885 !=t831) t865 t843 t844 t845) else (none))) else (none)))=some r:=H
                        have A93:=Aside0.mk A930
                        clear A930
                        have HC94:=Aside0.mk H
                        clear H
                        have hnb95:=NB850_814.out
                        have hnc95:=NB814_850.out
                        have hnb96:=NB850_832.out
                        have hnc96:=NB832_850.out
                        have hnb97:=NB850_839.out
                        have hnc97:=NB839_850.out
                        have hcz98_0:wc.cell? ⟨gb850,0,none⟩=some (.slice Ao33 t840.length co33):=(blk_cell BK850.out 0).trans rfl
                        have hcz98_1:wc.cell? ⟨gb850,1,none⟩=some (.int .i64 t843):=(blk_cell BK850.out 1).trans rfl
                        have hcz98_2:wc.cell? ⟨gb850,2,none⟩=some (.string t844):=(blk_cell BK850.out 2).trans rfl
                        have hcz98_3:wc.cell? ⟨gb850,3,none⟩=some (.int .i64 t845):=(blk_cell BK850.out 3).trans rfl
                        have hfz98_0:=blk_frozen BK850.out 0
                        have hfz98_1:=blk_frozen BK850.out 1
                        have hfz98_2:=blk_frozen BK850.out 2
                        have hfz98_3:=blk_frozen BK850.out 3
                        go_upto_region 29 with (first|((with_reducible refine gate_callee (f:=37) rfl ?_);refine goesL_ (some 85) rfl rfl Try.func37 (by kernel_rfl) rfl #[.agg #[.slice Ao33 t840.length co33,.int .i64 t843,.string t844,.int .i64 t845],.int .i64 1] rfl (by (try simp only [List.map_toArray,List.map_cons,List.map_nil]);first|done|rfl|(simp only [List.length_drop,List.length_take];rfl)) ?_;(with_reducible refine (laws_markSource.calls kj57 (fun k_=> some k_=(.slice Ao33 t840.length co33:Value).ownBlock) (.slice Ao33 t840.length co33) t840 t843 t844 t845 1 t864 t865 w _ ?side1 ?side2 A85.out).mono ?_);(case side1=> repeat (first|(with_reducible first|exact HB.out|apply below_alloc|apply pw_below_drewN|apply below_drew1|refine below_set ?_ GE814.out|refine below_set ?_ GE832.out|refine below_set ?_ GE839.out|refine below_set ?_ GE850.out)|exact HB.out));(case side2=> exact Kd.R_tight rfl HO_851000.out);rintro e w99 ⟨rfl,hy0,hb,hkp⟩;refine ⟨_,rfl,?_⟩;have n0_:=Aside0.mk (Kd.R_mono (ok':=fun k_=> some k_ ≠ (v847:Value).ownBlock ∧ some k_ ≠ (.slice Ao21 t822.length co21:Value).ownBlock ∧ some k_ ≠ (.slice Ao27 t861.length co27:Value).ownBlock ∧ some k_ ≠ (.slice Ao33 t840.length co33:Value).ownBlock) (Kd.R_keptB (HO_7.out) hkp (fun k_ hk_ hs_=> (hk_.2.2.2) hs_)) (fun k_ hk_=> ⟨hk_.1.1,hk_.1.2.1,hk_.1.2.2.1,hk_.1.2.2.2⟩));have n1_:=Aside0.mk (Kd.R_mono (ok':=fun k_=> some k_ ≠ (v829:Value).ownBlock ∧ some k_ ≠ (.slice Ao21 t822.length co21:Value).ownBlock ∧ some k_ ≠ (.slice Ao27 t861.length co27:Value).ownBlock ∧ some k_ ≠ (.slice Ao33 t840.length co33:Value).ownBlock) (Kd.R_keptB (HO_11.out) hkp (fun k_ hk_ hs_=> (hk_.2.2.2) hs_)) (fun k_ hk_=> ⟨hk_.1.1,hk_.1.2.1,hk_.1.2.2.1,hk_.1.2.2.2⟩));have n2_:=Aside0.mk (Kd.R_mono (ok':=fun k_=> some k_ ≠ (v829:Value).ownBlock ∧ some k_ ≠ (v847:Value).ownBlock ∧ some k_ ≠ (.slice Ao27 t861.length co27:Value).ownBlock ∧ some k_ ≠ (.slice Ao33 t840.length co33:Value).ownBlock) (Kd.R_keptB (HO_833000.out) hkp (fun k_ hk_ hs_=> (hk_.2.2.2) hs_)) (fun k_ hk_=> ⟨hk_.1.1,hk_.1.2.1,hk_.1.2.2.1,hk_.1.2.2.2⟩));have n3_:=Aside0.mk (Kd.R_mono (ok':=fun k_=> some k_ ≠ (v829:Value).ownBlock ∧ some k_ ≠ (v847:Value).ownBlock ∧ some k_ ≠ (.slice Ao21 t822.length co21:Value).ownBlock ∧ some k_ ≠ (.slice Ao33 t840.length co33:Value).ownBlock) (Kd.R_keptB (HO_840000.out) hkp (fun k_ hk_ hs_=> (hk_.2.2.2) hs_)) (fun k_ hk_=> ⟨hk_.1.1,hk_.1.2.1,hk_.1.2.2.1,hk_.1.2.2.2⟩));have n4_:=Aside0.mk (Kd.R_reok rfl hy0 (fun k_ e_=> HO_851000.out.1 k_ e_));have n5_:=Aside0.mk (blk_kept (by (with_reducible repeat (first|apply bN|apply bd|apply bA));exact BK814.out) hkp (fun hs_=> (fun e_=> (Kd.R_ne HO_851000.out BK814.out (by decide)) e_) hs_));have n6_:=Aside0.mk (blk_kept (by (with_reducible repeat (first|apply bN|apply bd|apply bA));exact BK832.out) hkp (fun hs_=> (fun e_=> (Kd.R_ne HO_851000.out BK832.out (by decide)) e_) hs_));have n7_:=Aside0.mk (blk_kept (by (with_reducible repeat (first|apply bN|apply bd|apply bA));exact BK839.out) hkp (fun hs_=> (fun e_=> (Kd.R_ne HO_851000.out BK839.out (by decide)) e_) hs_));have n8_:=Aside0.mk (blk_kept (by (with_reducible repeat (first|apply bN|apply bd|apply bA));exact BK850.out) hkp (fun hs_=> (fun e_=> (Kd.R_ne HO_851000.out BK850.out (by decide)) e_) hs_));have n9_:=Aside0.mk (hb);clear HO_7;clear HO_11;clear HO_833000;clear HO_840000;clear HO_851000;clear BK814;clear BK832;clear BK839;clear BK850;clear HB;have HO_7:=n0_;have HO_11:=n1_;have HO_833000:=n2_;have HO_840000:=n3_;have HO_851000:=n4_;have BK814:=n5_;have BK832:=n6_;have BK839:=n7_;have BK850:=n8_;have HB:=n9_;clear n0_ n1_ n2_ n3_ n4_ n5_ n6_ n7_ n8_ n9_;(try clear hb);(try clear hkp);(try clear hy0);obtain ⟨Ao100,co100,eo100⟩:=Kd.R_slice HO_11.out;subst eo100)|((with_reducible refine gate_callee (f:=64) rfl ?_);refine goesL_ (some 88) rfl rfl Try.func64 (by kernel_rfl) rfl #[.slice Ao100 t846.length co100,.int .i64 t864] rfl (by (try simp only [List.map_toArray,List.map_cons,List.map_nil]);first|done|rfl|(simp only [List.length_drop,List.length_take];rfl)) ?_;(with_reducible refine (laws_markExtS.calls kj57 (fun k_=> some k_=(.slice Ao100 t846.length co100:Value).ownBlock) (.slice Ao100 t846.length co100) t846 t864 t866 t867 w _ ?side1 ?side2 A86.out).mono ?_);(case side1=> repeat (first|(with_reducible first|exact HB.out|apply below_alloc|apply pw_below_drewN|apply below_drew1|refine below_set ?_ GE814.out|refine below_set ?_ GE832.out|refine below_set ?_ GE839.out|refine below_set ?_ GE850.out)|exact HB.out));(case side2=> exact Kd.R_tight rfl HO_11.out);rintro e w101 ⟨rfl,hy0,hb,hkp⟩;refine ⟨_,rfl,?_⟩;have n0_:=Aside0.mk (Kd.R_mono (ok':=fun k_=> some k_ ≠ (.slice Ao100 t846.length co100:Value).ownBlock ∧ some k_ ≠ (.slice Ao21 t822.length co21:Value).ownBlock ∧ some k_ ≠ (.slice Ao27 t861.length co27:Value).ownBlock ∧ some k_ ≠ (.slice Ao33 t840.length co33:Value).ownBlock) (Kd.R_keptB (HO_7.out) hkp (fun k_ hk_ hs_=> (hk_.1) hs_)) (fun k_ hk_=> ⟨hk_.1.1,hk_.1.2.1,hk_.1.2.2.1,hk_.1.2.2.2⟩));have n1_:=Aside0.mk (Kd.R_reok rfl hy0 (fun k_ e_=> HO_11.out.1 k_ e_));have n2_:=Aside0.mk (Kd.R_mono (ok':=fun k_=> some k_ ≠ (v829:Value).ownBlock ∧ some k_ ≠ (.slice Ao100 t846.length co100:Value).ownBlock ∧ some k_ ≠ (.slice Ao27 t861.length co27:Value).ownBlock ∧ some k_ ≠ (.slice Ao33 t840.length co33:Value).ownBlock) (Kd.R_keptB (HO_833000.out) hkp (fun k_ hk_ hs_=> (hk_.2.1) hs_)) (fun k_ hk_=> ⟨hk_.1.1,hk_.1.2.1,hk_.1.2.2.1,hk_.1.2.2.2⟩));have n3_:=Aside0.mk (Kd.R_mono (ok':=fun k_=> some k_ ≠ (v829:Value).ownBlock ∧ some k_ ≠ (.slice Ao100 t846.length co100:Value).ownBlock ∧ some k_ ≠ (.slice Ao21 t822.length co21:Value).ownBlock ∧ some k_ ≠ (.slice Ao33 t840.length co33:Value).ownBlock) (Kd.R_keptB (HO_840000.out) hkp (fun k_ hk_ hs_=> (hk_.2.1) hs_)) (fun k_ hk_=> ⟨hk_.1.1,hk_.1.2.1,hk_.1.2.2.1,hk_.1.2.2.2⟩));have n4_:=Aside0.mk (Kd.R_mono (ok':=fun k_=> some k_ ≠ (v829:Value).ownBlock ∧ some k_ ≠ (.slice Ao100 t846.length co100:Value).ownBlock ∧ some k_ ≠ (.slice Ao21 t822.length co21:Value).ownBlock ∧ some k_ ≠ (.slice Ao27 t861.length co27:Value).ownBlock) (Kd.R_keptB (HO_851000.out) hkp (fun k_ hk_ hs_=> (hk_.2.1) hs_)) (fun k_ hk_=> ⟨hk_.1.1,hk_.1.2.1,hk_.1.2.2.1,hk_.1.2.2.2⟩));have n5_:=Aside0.mk (blk_kept (by (with_reducible repeat (first|apply bN|apply bd|apply bA));exact BK814.out) hkp (fun hs_=> (fun e_=> (Kd.R_ne HO_11.out BK814.out (by decide)) e_) hs_));have n6_:=Aside0.mk (blk_kept (by (with_reducible repeat (first|apply bN|apply bd|apply bA));exact BK832.out) hkp (fun hs_=> (fun e_=> (Kd.R_ne HO_11.out BK832.out (by decide)) e_) hs_));have n7_:=Aside0.mk (blk_kept (by (with_reducible repeat (first|apply bN|apply bd|apply bA));exact BK839.out) hkp (fun hs_=> (fun e_=> (Kd.R_ne HO_11.out BK839.out (by decide)) e_) hs_));have n8_:=Aside0.mk (blk_kept (by (with_reducible repeat (first|apply bN|apply bd|apply bA));exact BK850.out) hkp (fun hs_=> (fun e_=> (Kd.R_ne HO_11.out BK850.out (by decide)) e_) hs_));have n9_:=Aside0.mk (hb);clear HO_7;clear HO_11;clear HO_833000;clear HO_840000;clear HO_851000;clear BK814;clear BK832;clear BK839;clear BK850;clear HB;have HO_7:=n0_;have HO_11:=n1_;have HO_833000:=n2_;have HO_840000:=n3_;have HO_851000:=n4_;have BK814:=n5_;have BK832:=n6_;have BK839:=n7_;have BK850:=n8_;have HB:=n9_;clear n0_ n1_ n2_ n3_ n4_ n5_ n6_ n7_ n8_ n9_;(try clear hb);(try clear hkp);(try clear hy0);have hcz102_0:w101.cell? ⟨gb850,0,none⟩=some (.slice Ao33 t840.length co33):=(blk_cell BK850.out 0).trans rfl;have hcz102_1:w101.cell? ⟨gb850,1,none⟩=some (.int .i64 t843):=(blk_cell BK850.out 1).trans rfl;have hcz102_2:w101.cell? ⟨gb850,2,none⟩=some (.string t844):=(blk_cell BK850.out 2).trans rfl;have hcz102_3:w101.cell? ⟨gb850,3,none⟩=some (.int .i64 t845):=(blk_cell BK850.out 3).trans rfl;have hfz102_0:=blk_frozen BK850.out 0;have hfz102_1:=blk_frozen BK850.out 1;have hfz102_2:=blk_frozen BK850.out 2;have hfz102_3:=blk_frozen BK850.out 3)|((with_reducible refine gate_callee (f:=38) rfl ?_);refine goesL_ (some 91) rfl rfl Try.func38 (by kernel_rfl) rfl #[.agg #[.slice Ao33 t865.length co33,.int .i64 t843,.string t844,.int .i64 t845],.int .i64 1] rfl (by (try simp only [List.map_toArray,List.map_cons,List.map_nil]);first|done|(rw [show t865.length=t840.length from (Kd.R_reads' HO_851000.out).1.symm] <;> rfl)|rfl|(simp only [List.length_drop,List.length_take];rfl)) ?_;(with_reducible refine (laws_heldSource.calls kj57 _ _ t865 t843 t844 t845 1 t868 _ ?side1 ?side2 A87.out).mono ?_);(case side1=> repeat (first|exact (Kd.R_reads' HO_851000.out).2.2|(with_reducible refine Kd.C_alloc ?_ _)|(with_reducible refine Kd.C_drewN ?_ _)|(with_reducible refine Kd.C_drew ?_)));(case side2=> rw [show t865.length=t840.length from (Kd.R_reads' HO_851000.out).1.symm];exact (Kd.R_reads' HO_851000.out).2.1);rintro e w103 ⟨rfl,hb⟩;refine ⟨_,rfl,?_⟩;have n0_:=Aside0.mk (Kd.R_below (by (with_reducible repeat (first|apply Kd.R_alloc|apply Kd.R_drewN|apply Kd.R_drew));exact HO_7.out) hb);have n1_:=Aside0.mk (Kd.R_below (by (with_reducible repeat (first|apply Kd.R_alloc|apply Kd.R_drewN|apply Kd.R_drew));exact HO_11.out) hb);have n2_:=Aside0.mk (Kd.R_below (by (with_reducible repeat (first|apply Kd.R_alloc|apply Kd.R_drewN|apply Kd.R_drew));exact HO_833000.out) hb);have n3_:=Aside0.mk (Kd.R_below (by (with_reducible repeat (first|apply Kd.R_alloc|apply Kd.R_drewN|apply Kd.R_drew));exact HO_840000.out) hb);have n4_:=Aside0.mk (Kd.R_below (by (with_reducible repeat (first|apply Kd.R_alloc|apply Kd.R_drewN|apply Kd.R_drew));exact HO_851000.out) hb);have n5_:=Aside0.mk (blk_below (g:=gb814) (o:= .cells #[.slice A0_0 l0_0.length c0_0,.int .i64 a0_1,.string a0_2,.int .i64 a0_3] 61 (0,0)) (by (with_reducible repeat (first|apply bN|apply bd|apply bA));exact BK814.out) hb);have n6_:=Aside0.mk (blk_below (g:=gb832) (o:= .cells #[.slice Ao21 t822.length co21,.int .i64 t825,.string t826,.int .i64 t827] 36 (0,0)) (by (with_reducible repeat (first|apply bN|apply bd|apply bA));exact BK832.out) hb);have n7_:=Aside0.mk (blk_below (g:=gb839) (o:= .cells #[.slice Ao27 t861.length co27,.int .i64 t836,.string t837,.int .i64 t838] 36 (0,0)) (by (with_reducible repeat (first|apply bN|apply bd|apply bA));exact BK839.out) hb);have n8_:=Aside0.mk (blk_below (g:=gb850) (o:= .cells #[.slice Ao33 t840.length co33,.int .i64 t843,.string t844,.int .i64 t845] 36 (0,0)) (by (with_reducible repeat (first|apply bN|apply bd|apply bA));exact BK850.out) hb);have n9_:=Aside0.mk (below_step (by repeat (first|(with_reducible first|exact HB.out|apply below_alloc|apply pw_below_drewN|apply below_drew1|refine below_set ?_ GE814.out|refine below_set ?_ GE832.out|refine below_set ?_ GE839.out|refine below_set ?_ GE850.out)|exact HB.out)) hb);clear HO_7;clear HO_11;clear HO_833000;clear HO_840000;clear HO_851000;clear BK814;clear BK832;clear BK839;clear BK850;clear HB;have HO_7:=n0_;have HO_11:=n1_;have HO_833000:=n2_;have HO_840000:=n3_;have HO_851000:=n4_;have BK814:=n5_;have BK832:=n6_;have BK839:=n7_;have BK850:=n8_;have HB:=n9_;clear n0_ n1_ n2_ n3_ n4_ n5_ n6_ n7_ n8_ n9_;(try clear hb);(try clear hb2);(try clear hk);(try clear hi))|((with_reducible refine gate_callee (f:=74) rfl ?_);refine goesL_ (some 96) rfl rfl Try.func74 (by kernel_rfl) rfl #[.slice Ao100 t867.length co100,.int .i64 t868] rfl (by (try simp only [List.map_toArray,List.map_cons,List.map_nil]);first|done|(rw [show t867.length=t846.length from (Kd.R_reads' HO_11.out).1.symm] <;> rfl)|rfl|(simp only [List.length_drop,List.length_take];rfl)) ?_;(with_reducible refine (laws_heldExtS.calls kj57 _ _ t867 t868 t869 _ ?side1 ?side2 A89.out).mono ?_);(case side1=> repeat (first|exact (Kd.R_reads' HO_11.out).2.2|(with_reducible refine Kd.C_alloc ?_ _)|(with_reducible refine Kd.C_drewN ?_ _)|(with_reducible refine Kd.C_drew ?_)));(case side2=> rw [show t867.length=t846.length from (Kd.R_reads' HO_11.out).1.symm];exact (Kd.R_reads' HO_11.out).2.1);rintro e w' ⟨rfl,⟨nd,rfl⟩⟩;refine ⟨_,rfl,?_⟩;(try (rw [drewN_self w103];generalize hq_:World.drewN w103 _=w103;have n0_:Aside0 (Kd.R k79 79 w103 w.heap.size (fun k_=> some k_ ≠ (v829:Value).ownBlock ∧ some k_ ≠ (.slice Ao21 t822.length co21:Value).ownBlock ∧ some k_ ≠ (.slice Ao27 t861.length co27:Value).ownBlock ∧ some k_ ≠ (.slice Ao33 t840.length co33:Value).ownBlock) (.slice Ao100 t846.length co100) t867):=⟨by rw [← hq_];exact (by (with_reducible repeat (first|apply Kd.R_alloc|apply Kd.R_drewN|apply Kd.R_drew));exact HO_11.out)⟩;have n1_:Aside0 (Kd.R k79 79 w103 w.heap.size (fun k_=> some k_ ≠ (.slice Ao100 t846.length co100:Value).ownBlock ∧ some k_ ≠ (.slice Ao21 t822.length co21:Value).ownBlock ∧ some k_ ≠ (.slice Ao27 t861.length co27:Value).ownBlock ∧ some k_ ≠ (.slice Ao33 t840.length co33:Value).ownBlock) v829 t828):=⟨by rw [← hq_];exact (by (with_reducible repeat (first|apply Kd.R_alloc|apply Kd.R_drewN|apply Kd.R_drew));exact HO_7.out)⟩;have n2_:Aside0 (Kd.R k79 79 w103 w.heap.size (fun k_=> some k_ ≠ (v829:Value).ownBlock ∧ some k_ ≠ (.slice Ao100 t846.length co100:Value).ownBlock ∧ some k_ ≠ (.slice Ao27 t861.length co27:Value).ownBlock ∧ some k_ ≠ (.slice Ao33 t840.length co33:Value).ownBlock) (.slice Ao21 t822.length co21) t822):=⟨by rw [← hq_];exact (by (with_reducible repeat (first|apply Kd.R_alloc|apply Kd.R_drewN|apply Kd.R_drew));exact HO_833000.out)⟩;have n3_:Aside0 (Kd.R k79 79 w103 w.heap.size (fun k_=> some k_ ≠ (v829:Value).ownBlock ∧ some k_ ≠ (.slice Ao100 t846.length co100:Value).ownBlock ∧ some k_ ≠ (.slice Ao21 t822.length co21:Value).ownBlock ∧ some k_ ≠ (.slice Ao33 t840.length co33:Value).ownBlock) (.slice Ao27 t861.length co27) t861):=⟨by rw [← hq_];exact (by (with_reducible repeat (first|apply Kd.R_alloc|apply Kd.R_drewN|apply Kd.R_drew));exact HO_840000.out)⟩;have n4_:Aside0 (Kd.R k79 79 w103 w.heap.size (fun k_=> some k_ ≠ (v829:Value).ownBlock ∧ some k_ ≠ (.slice Ao100 t846.length co100:Value).ownBlock ∧ some k_ ≠ (.slice Ao21 t822.length co21:Value).ownBlock ∧ some k_ ≠ (.slice Ao27 t861.length co27:Value).ownBlock) (.slice Ao33 t840.length co33) t865):=⟨by rw [← hq_];exact (by (with_reducible repeat (first|apply Kd.R_alloc|apply Kd.R_drewN|apply Kd.R_drew));exact HO_851000.out)⟩;have n5_:Aside0 (w103.heap[gb814]?=some (.cells #[.slice A0_0 l0_0.length c0_0,.int .i64 a0_1,.string a0_2,.int .i64 a0_3] 61 (0,0))):=⟨by rw [← hq_];exact (by (with_reducible repeat (first|apply bN|apply bd|apply bA));exact BK814.out)⟩;have n6_:Aside0 (w103.heap[gb832]?=some (.cells #[.slice Ao21 t822.length co21,.int .i64 t825,.string t826,.int .i64 t827] 36 (0,0))):=⟨by rw [← hq_];exact (by (with_reducible repeat (first|apply bN|apply bd|apply bA));exact BK832.out)⟩;have n7_:Aside0 (w103.heap[gb839]?=some (.cells #[.slice Ao27 t861.length co27,.int .i64 t836,.string t837,.int .i64 t838] 36 (0,0))):=⟨by rw [← hq_];exact (by (with_reducible repeat (first|apply bN|apply bd|apply bA));exact BK839.out)⟩;have n8_:Aside0 (w103.heap[gb850]?=some (.cells #[.slice Ao33 t840.length co33,.int .i64 t843,.string t844,.int .i64 t845] 36 (0,0))):=⟨by rw [← hq_];exact (by (with_reducible repeat (first|apply bN|apply bd|apply bA));exact BK850.out)⟩;have n9_:Aside0 (Below w.heap.size w w103):=⟨by rw [← hq_];exact (by repeat (first|(with_reducible first|exact HB.out|apply below_alloc|apply pw_below_drewN|apply below_drew1|refine below_set ?_ GE814.out|refine below_set ?_ GE832.out|refine below_set ?_ GE839.out|refine below_set ?_ GE850.out)|exact HB.out))⟩;clear HO_11 HO_7 HO_833000 HO_840000 HO_851000 BK814 BK832 BK839 BK850 HB hq_;have HO_11:=n0_;have HO_7:=n1_;have HO_833000:=n2_;have HO_840000:=n3_;have HO_851000:=n4_;have BK814:=n5_;have BK832:=n6_;have BK839:=n7_;have BK850:=n8_;have HB:=n9_;clear n0_ n1_ n2_ n3_ n4_ n5_ n6_ n7_ n8_ n9_));have hnb104:=NB814_832.out;have hnc104:=NB832_814.out;have hnb105:=NB814_839.out;have hnc105:=NB839_814.out;have hcz106_0:w103.cell? ⟨gb814,0,none⟩=some (.slice A0_0 l0_0.length c0_0):=(blk_cell BK814.out 0).trans rfl;have hcz106_1:w103.cell? ⟨gb814,1,none⟩=some (.int .i64 a0_1):=(blk_cell BK814.out 1).trans rfl;have hcz106_2:w103.cell? ⟨gb814,2,none⟩=some (.string a0_2):=(blk_cell BK814.out 2).trans rfl;have hcz106_3:w103.cell? ⟨gb814,3,none⟩=some (.int .i64 a0_3):=(blk_cell BK814.out 3).trans rfl;have hfz106_0:=blk_frozen BK814.out 0;have hfz106_1:=blk_frozen BK814.out 1;have hfz106_2:=blk_frozen BK814.out 2;have hfz106_3:=blk_frozen BK814.out 3)|((with_reducible refine gate_callee (f:=55) rfl ?_);refine goesL_ (some 104) rfl rfl Try.func55 (by kernel_rfl) rfl #[.agg #[.slice A0_0 l0_0.length c0_0,.int .i64 a0_1,.string a0_2,.int .i64 a0_3]] rfl (by (try simp only [List.map_toArray,List.map_cons,List.map_nil]);first|done|rfl|(simp only [List.length_drop,List.length_take];rfl)) ?_;(with_reducible refine (laws_toSource.calls kj57 _ _ l0_0 a0_1 a0_2 a0_3 t870 t873 t874 t875 _ ?side1 ?side2 A92.out).mono ?_);(case side1=> repeat (first|exact (Kd.C_below HR0_0.out HB.out)|(with_reducible refine Kd.C_alloc ?_ _)|(with_reducible refine Kd.C_drewN ?_ _)|(with_reducible refine Kd.C_drew ?_)));(case side2=> exact HC0_0.out);rintro e w107 ⟨v871,rfl,ho0,hb⟩;refine ⟨_,rfl,?_⟩;have n0_:=Aside0.mk (Kd.R_elder' (by (with_reducible repeat (first|apply Kd.R_alloc|apply Kd.R_drewN|apply Kd.R_drew));exact HO_7.out) (Kd.R_base ho0) hb);have n1_:=Aside0.mk (Kd.R_elder' (by (with_reducible repeat (first|apply Kd.R_alloc|apply Kd.R_drewN|apply Kd.R_drew));exact HO_11.out) (Kd.R_base ho0) hb);have n2_:=Aside0.mk (Kd.R_elder' (by (with_reducible repeat (first|apply Kd.R_alloc|apply Kd.R_drewN|apply Kd.R_drew));exact HO_833000.out) (Kd.R_base ho0) hb);have n3_:=Aside0.mk (Kd.R_elder' (by (with_reducible repeat (first|apply Kd.R_alloc|apply Kd.R_drewN|apply Kd.R_drew));exact HO_840000.out) (Kd.R_base ho0) hb);have n4_:=Aside0.mk (Kd.R_elder' (by (with_reducible repeat (first|apply Kd.R_alloc|apply Kd.R_drewN|apply Kd.R_drew));exact HO_851000.out) (Kd.R_base ho0) hb);have n5_:=Aside0.mk (Kd.R_lower (Kd.R_new' (Kd.R_new' (Kd.R_new' (Kd.R_new' (Kd.R_new' ho0 (Kd.R_lt (by (with_reducible repeat (first|apply Kd.R_alloc|apply Kd.R_drewN|apply Kd.R_drew));exact HO_7.out))) (Kd.R_lt (by (with_reducible repeat (first|apply Kd.R_alloc|apply Kd.R_drewN|apply Kd.R_drew));exact HO_11.out))) (Kd.R_lt (by (with_reducible repeat (first|apply Kd.R_alloc|apply Kd.R_drewN|apply Kd.R_drew));exact HO_833000.out))) (Kd.R_lt (by (with_reducible repeat (first|apply Kd.R_alloc|apply Kd.R_drewN|apply Kd.R_drew));exact HO_840000.out))) (Kd.R_lt (by (with_reducible repeat (first|apply Kd.R_alloc|apply Kd.R_drewN|apply Kd.R_drew));exact HO_851000.out))) (below_size (by repeat (first|(with_reducible first|exact HB.out|apply below_alloc|apply pw_below_drewN|apply below_drew1|refine below_set ?_ GE814.out|refine below_set ?_ GE832.out|refine below_set ?_ GE839.out|refine below_set ?_ GE850.out)|exact HB.out))));have n6_:=Aside0.mk (blk_below (g:=gb814) (o:= .cells #[.slice A0_0 l0_0.length c0_0,.int .i64 a0_1,.string a0_2,.int .i64 a0_3] 61 (0,0)) (by (with_reducible repeat (first|apply bN|apply bd|apply bA));exact BK814.out) hb);have n7_:=Aside0.mk (blk_below (g:=gb832) (o:= .cells #[.slice Ao21 t822.length co21,.int .i64 t825,.string t826,.int .i64 t827] 36 (0,0)) (by (with_reducible repeat (first|apply bN|apply bd|apply bA));exact BK832.out) hb);have n8_:=Aside0.mk (blk_below (g:=gb839) (o:= .cells #[.slice Ao27 t861.length co27,.int .i64 t836,.string t837,.int .i64 t838] 36 (0,0)) (by (with_reducible repeat (first|apply bN|apply bd|apply bA));exact BK839.out) hb);have n9_:=Aside0.mk (blk_below (g:=gb850) (o:= .cells #[.slice Ao33 t840.length co33,.int .i64 t843,.string t844,.int .i64 t845] 36 (0,0)) (by (with_reducible repeat (first|apply bN|apply bd|apply bA));exact BK850.out) hb);have n10_:=Aside0.mk (below_step (by repeat (first|(with_reducible first|exact HB.out|apply below_alloc|apply pw_below_drewN|apply below_drew1|refine below_set ?_ GE814.out|refine below_set ?_ GE832.out|refine below_set ?_ GE839.out|refine below_set ?_ GE850.out)|exact HB.out)) hb);clear HO_7;clear HO_11;clear HO_833000;clear HO_840000;clear HO_851000;clear BK814;clear BK832;clear BK839;clear BK850;clear HB;have HO_7:=n0_;have HO_11:=n1_;have HO_833000:=n2_;have HO_840000:=n3_;have HO_851000:=n4_;have HO872:=n5_;have BK814:=n6_;have BK832:=n7_;have BK839:=n8_;have BK850:=n9_;have HB:=n10_;clear n0_ n1_ n2_ n3_ n4_ n5_ n6_ n7_ n8_ n9_ n10_;(try clear hb);(try clear hb2);(try clear hk);(try clear hi);(try clear ho0);obtain ⟨Ao108,co108,eo108⟩:=Kd.R_slice HO872.out;subst eo108)|((with_reducible refine gate_callee (f:=73) rfl ?_);refine goesL_ (some 106) rfl rfl Try.func73 (by kernel_rfl) rfl #[.agg #[.slice Ao108 t870.length co108,.int .i64 t873,.string t874,.int .i64 t875],.int .i64 a1] rfl (by (try simp only [List.map_toArray,List.map_cons,List.map_nil]);first|done|rfl|(simp only [List.length_drop,List.length_take];rfl)) ?_;(with_reducible refine (impl_TakeSome.calls _ _ t870 t873 t874 t875 a1 t876 t879 t880 t881 t882 t885 _ ?side1 ?side2 A93.out).mono ?_);(case side1=> repeat (first|exact (Kd.R_reads' HO872.out).2.2|(with_reducible refine Kd.C_alloc ?_ _)|(with_reducible refine Kd.C_drewN ?_ _)|(with_reducible refine Kd.C_drew ?_)));(case side2=> exact (Kd.R_reads' HO872.out).2.1);rintro e w109 ⟨v877,v883,rfl,ho0,ho1,hb⟩;refine ⟨_,rfl,?_⟩;have n0_:=Aside0.mk (Kd.R_mono (Kd.R_told (Kd.R_told (Kd.R_old (by (with_reducible repeat (first|apply Kd.R_alloc|apply Kd.R_drewN|apply Kd.R_drew));exact HO_7.out) hb) (Kd.R_base ho0)) (Kd.R_base ho1)) (fun _ h_=> h_.1));have n1_:=Aside0.mk (Kd.R_mono (Kd.R_told (Kd.R_told (Kd.R_old (by (with_reducible repeat (first|apply Kd.R_alloc|apply Kd.R_drewN|apply Kd.R_drew));exact HO_11.out) hb) (Kd.R_base ho0)) (Kd.R_base ho1)) (fun _ h_=> h_.1));have n2_:=Aside0.mk (Kd.R_mono (Kd.R_told (Kd.R_told (Kd.R_old (by (with_reducible repeat (first|apply Kd.R_alloc|apply Kd.R_drewN|apply Kd.R_drew));exact HO_833000.out) hb) (Kd.R_base ho0)) (Kd.R_base ho1)) (fun _ h_=> h_.1));have n3_:=Aside0.mk (Kd.R_mono (Kd.R_told (Kd.R_told (Kd.R_old (by (with_reducible repeat (first|apply Kd.R_alloc|apply Kd.R_drewN|apply Kd.R_drew));exact HO_840000.out) hb) (Kd.R_base ho0)) (Kd.R_base ho1)) (fun _ h_=> h_.1));have n4_:=Aside0.mk (Kd.R_mono (Kd.R_told (Kd.R_told (Kd.R_old (by (with_reducible repeat (first|apply Kd.R_alloc|apply Kd.R_drewN|apply Kd.R_drew));exact HO_851000.out) hb) (Kd.R_base ho0)) (Kd.R_base ho1)) (fun _ h_=> h_.1));have n5_:=Aside0.mk (Kd.R_mono (Kd.R_told (Kd.R_told (Kd.R_old (by (with_reducible repeat (first|apply Kd.R_alloc|apply Kd.R_drewN|apply Kd.R_drew));exact HO872.out) hb) (Kd.R_base ho0)) (Kd.R_base ho1)) (fun _ h_=> h_.1));have n6_:=Aside0.mk (Kd.R_lower (Kd.R_new' (Kd.R_new' (Kd.R_new' (Kd.R_new' (Kd.R_new' (Kd.R_new' ho0 (Kd.R_lt (by (with_reducible repeat (first|apply Kd.R_alloc|apply Kd.R_drewN|apply Kd.R_drew));exact HO_7.out))) (Kd.R_lt (by (with_reducible repeat (first|apply Kd.R_alloc|apply Kd.R_drewN|apply Kd.R_drew));exact HO_11.out))) (Kd.R_lt (by (with_reducible repeat (first|apply Kd.R_alloc|apply Kd.R_drewN|apply Kd.R_drew));exact HO_833000.out))) (Kd.R_lt (by (with_reducible repeat (first|apply Kd.R_alloc|apply Kd.R_drewN|apply Kd.R_drew));exact HO_840000.out))) (Kd.R_lt (by (with_reducible repeat (first|apply Kd.R_alloc|apply Kd.R_drewN|apply Kd.R_drew));exact HO_851000.out))) (Kd.R_lt (by (with_reducible repeat (first|apply Kd.R_alloc|apply Kd.R_drewN|apply Kd.R_drew));exact HO872.out))) (below_size (by repeat (first|(with_reducible first|exact HB.out|apply below_alloc|apply pw_below_drewN|apply below_drew1|refine below_set ?_ GE814.out|refine below_set ?_ GE832.out|refine below_set ?_ GE839.out|refine below_set ?_ GE850.out)|exact HB.out))));have n7_:=Aside0.mk (Kd.R_lower (Kd.R_new' (Kd.R_new' (Kd.R_new' (Kd.R_new' (Kd.R_new' (Kd.R_new' ho1 (Kd.R_lt (by (with_reducible repeat (first|apply Kd.R_alloc|apply Kd.R_drewN|apply Kd.R_drew));exact HO_7.out))) (Kd.R_lt (by (with_reducible repeat (first|apply Kd.R_alloc|apply Kd.R_drewN|apply Kd.R_drew));exact HO_11.out))) (Kd.R_lt (by (with_reducible repeat (first|apply Kd.R_alloc|apply Kd.R_drewN|apply Kd.R_drew));exact HO_833000.out))) (Kd.R_lt (by (with_reducible repeat (first|apply Kd.R_alloc|apply Kd.R_drewN|apply Kd.R_drew));exact HO_840000.out))) (Kd.R_lt (by (with_reducible repeat (first|apply Kd.R_alloc|apply Kd.R_drewN|apply Kd.R_drew));exact HO_851000.out))) (Kd.R_lt (by (with_reducible repeat (first|apply Kd.R_alloc|apply Kd.R_drewN|apply Kd.R_drew));exact HO872.out))) (below_size (by repeat (first|(with_reducible first|exact HB.out|apply below_alloc|apply pw_below_drewN|apply below_drew1|refine below_set ?_ GE814.out|refine below_set ?_ GE832.out|refine below_set ?_ GE839.out|refine below_set ?_ GE850.out)|exact HB.out))));have n8_:=Aside0.mk (blk_below (g:=gb814) (o:= .cells #[.slice A0_0 l0_0.length c0_0,.int .i64 a0_1,.string a0_2,.int .i64 a0_3] 61 (0,0)) (by (with_reducible repeat (first|apply bN|apply bd|apply bA));exact BK814.out) hb);have n9_:=Aside0.mk (blk_below (g:=gb832) (o:= .cells #[.slice Ao21 t822.length co21,.int .i64 t825,.string t826,.int .i64 t827] 36 (0,0)) (by (with_reducible repeat (first|apply bN|apply bd|apply bA));exact BK832.out) hb);have n10_:=Aside0.mk (blk_below (g:=gb839) (o:= .cells #[.slice Ao27 t861.length co27,.int .i64 t836,.string t837,.int .i64 t838] 36 (0,0)) (by (with_reducible repeat (first|apply bN|apply bd|apply bA));exact BK839.out) hb);have n11_:=Aside0.mk (blk_below (g:=gb850) (o:= .cells #[.slice Ao33 t840.length co33,.int .i64 t843,.string t844,.int .i64 t845] 36 (0,0)) (by (with_reducible repeat (first|apply bN|apply bd|apply bA));exact BK850.out) hb);have n12_:=Aside0.mk (below_step (by repeat (first|(with_reducible first|exact HB.out|apply below_alloc|apply pw_below_drewN|apply below_drew1|refine below_set ?_ GE814.out|refine below_set ?_ GE832.out|refine below_set ?_ GE839.out|refine below_set ?_ GE850.out)|exact HB.out)) hb);clear HO_7;clear HO_11;clear HO_833000;clear HO_840000;clear HO_851000;clear HO872;clear BK814;clear BK832;clear BK839;clear BK850;clear HB;have HO_7:=n0_;have HO_11:=n1_;have HO_833000:=n2_;have HO_840000:=n3_;have HO_851000:=n4_;have HO872:=n5_;have HO878:=n6_;have HO884:=n7_;have BK814:=n8_;have BK832:=n9_;have BK839:=n10_;have BK850:=n11_;have HB:=n12_;clear n0_ n1_ n2_ n3_ n4_ n5_ n6_ n7_ n8_ n9_ n10_ n11_ n12_;(try clear hb);(try clear hb2);(try clear hk);(try clear hi);(try clear ho0);(try clear ho1))|((with_reducible refine gate_dst (N:=16) rfl ?_);refine box_event ?hg (N:=16) ?hd (cs:= #[.slice none 0 0,.int .i64 0,.string (⟨#[]⟩:ByteArray),.int .i64 0]) (t:=36) ?hr ?_;(case hd=> rfl);(case hg=> rfl);(case hr=> first|(go_simp;done)|(go_simp;rfl));intro gb886 hg w110 hbox hb;have n0_:=Aside0.mk (Kd.R_below (by (with_reducible repeat (first|apply Kd.R_alloc|apply Kd.R_drewN|apply Kd.R_drew));exact HO_7.out) hb);have n1_:=Aside0.mk (Kd.R_below (by (with_reducible repeat (first|apply Kd.R_alloc|apply Kd.R_drewN|apply Kd.R_drew));exact HO_11.out) hb);have n2_:=Aside0.mk (Kd.R_below (by (with_reducible repeat (first|apply Kd.R_alloc|apply Kd.R_drewN|apply Kd.R_drew));exact HO_833000.out) hb);have n3_:=Aside0.mk (Kd.R_below (by (with_reducible repeat (first|apply Kd.R_alloc|apply Kd.R_drewN|apply Kd.R_drew));exact HO_840000.out) hb);have n4_:=Aside0.mk (Kd.R_below (by (with_reducible repeat (first|apply Kd.R_alloc|apply Kd.R_drewN|apply Kd.R_drew));exact HO_851000.out) hb);have n5_:=Aside0.mk (Kd.R_below (by (with_reducible repeat (first|apply Kd.R_alloc|apply Kd.R_drewN|apply Kd.R_drew));exact HO872.out) hb);have n6_:=Aside0.mk (Kd.R_below (by (with_reducible repeat (first|apply Kd.R_alloc|apply Kd.R_drewN|apply Kd.R_drew));exact HO878.out) hb);have n7_:=Aside0.mk (Kd.R_below (by (with_reducible repeat (first|apply Kd.R_alloc|apply Kd.R_drewN|apply Kd.R_drew));exact HO884.out) hb);have n8_:=Aside0.mk (blk_below (g:=gb814) (o:= .cells #[.slice A0_0 l0_0.length c0_0,.int .i64 a0_1,.string a0_2,.int .i64 a0_3] 61 (0,0)) (by (with_reducible repeat (first|apply bN|apply bd|apply bA));exact BK814.out) hb);have n9_:=Aside0.mk (blk_below (g:=gb832) (o:= .cells #[.slice Ao21 t822.length co21,.int .i64 t825,.string t826,.int .i64 t827] 36 (0,0)) (by (with_reducible repeat (first|apply bN|apply bd|apply bA));exact BK832.out) hb);have n10_:=Aside0.mk (blk_below (g:=gb839) (o:= .cells #[.slice Ao27 t861.length co27,.int .i64 t836,.string t837,.int .i64 t838] 36 (0,0)) (by (with_reducible repeat (first|apply bN|apply bd|apply bA));exact BK839.out) hb);have n11_:=Aside0.mk (blk_below (g:=gb850) (o:= .cells #[.slice Ao33 t840.length co33,.int .i64 t843,.string t844,.int .i64 t845] 36 (0,0)) (by (with_reducible repeat (first|apply bN|apply bd|apply bA));exact BK850.out) hb);have n12_:=Aside0.mk (below_step (by repeat (first|(with_reducible first|exact HB.out|apply below_alloc|apply pw_below_drewN|apply below_drew1|refine below_set ?_ GE814.out|refine below_set ?_ GE832.out|refine below_set ?_ GE839.out|refine below_set ?_ GE850.out)|exact HB.out)) hb);have n13_:=Aside0.mk (hbox);have n14_:=Aside0.mk ((by rw [hg];exact (below_size (by repeat (first|(with_reducible first|exact HB.out|apply below_alloc|apply pw_below_drewN|apply below_drew1|refine below_set ?_ GE814.out|refine below_set ?_ GE832.out|refine below_set ?_ GE839.out|refine below_set ?_ GE850.out)|exact HB.out))):w.heap.size ≤ gb886));have n15_:=Aside0.mk ((by rw [hg];exact (below_size (by repeat (first|(with_reducible first|exact HB.out|apply below_alloc|apply pw_below_drewN|apply below_drew1|refine below_set ?_ GE814.out|refine below_set ?_ GE832.out|refine below_set ?_ GE839.out|refine below_set ?_ GE850.out)|exact HB.out))):w.heap.size ≤ gb886));have n16_:=Aside0.mk ((by rw [hg];exact Nat.ne_of_lt (blk_lt (g:=gb814) (o:= .cells #[.slice A0_0 l0_0.length c0_0,.int .i64 a0_1,.string a0_2,.int .i64 a0_3] 61 (0,0)) (by (with_reducible repeat (first|apply bN|apply bd|apply bA));exact BK814.out)):gb814 ≠ gb886));have n17_:=Aside0.mk ((by rw [hg];exact Nat.ne_of_gt (blk_lt (g:=gb814) (o:= .cells #[.slice A0_0 l0_0.length c0_0,.int .i64 a0_1,.string a0_2,.int .i64 a0_3] 61 (0,0)) (by (with_reducible repeat (first|apply bN|apply bd|apply bA));exact BK814.out)):gb886 ≠ gb814));have n18_:=Aside0.mk ((by rw [hg];exact Nat.ne_of_lt (blk_lt (g:=gb832) (o:= .cells #[.slice Ao21 t822.length co21,.int .i64 t825,.string t826,.int .i64 t827] 36 (0,0)) (by (with_reducible repeat (first|apply bN|apply bd|apply bA));exact BK832.out)):gb832 ≠ gb886));have n19_:=Aside0.mk ((by rw [hg];exact Nat.ne_of_gt (blk_lt (g:=gb832) (o:= .cells #[.slice Ao21 t822.length co21,.int .i64 t825,.string t826,.int .i64 t827] 36 (0,0)) (by (with_reducible repeat (first|apply bN|apply bd|apply bA));exact BK832.out)):gb886 ≠ gb832));have n20_:=Aside0.mk ((by rw [hg];exact Nat.ne_of_lt (blk_lt (g:=gb839) (o:= .cells #[.slice Ao27 t861.length co27,.int .i64 t836,.string t837,.int .i64 t838] 36 (0,0)) (by (with_reducible repeat (first|apply bN|apply bd|apply bA));exact BK839.out)):gb839 ≠ gb886));have n21_:=Aside0.mk ((by rw [hg];exact Nat.ne_of_gt (blk_lt (g:=gb839) (o:= .cells #[.slice Ao27 t861.length co27,.int .i64 t836,.string t837,.int .i64 t838] 36 (0,0)) (by (with_reducible repeat (first|apply bN|apply bd|apply bA));exact BK839.out)):gb886 ≠ gb839));have n22_:=Aside0.mk ((by rw [hg];exact Nat.ne_of_lt (blk_lt (g:=gb850) (o:= .cells #[.slice Ao33 t840.length co33,.int .i64 t843,.string t844,.int .i64 t845] 36 (0,0)) (by (with_reducible repeat (first|apply bN|apply bd|apply bA));exact BK850.out)):gb850 ≠ gb886));have n23_:=Aside0.mk ((by rw [hg];exact Nat.ne_of_gt (blk_lt (g:=gb850) (o:= .cells #[.slice Ao33 t840.length co33,.int .i64 t843,.string t844,.int .i64 t845] 36 (0,0)) (by (with_reducible repeat (first|apply bN|apply bd|apply bA));exact BK850.out)):gb886 ≠ gb850));clear HO_7;clear HO_11;clear HO_833000;clear HO_840000;clear HO_851000;clear HO872;clear HO878;clear HO884;clear BK814;clear BK832;clear BK839;clear BK850;clear HB;have HO_7:=n0_;have HO_11:=n1_;have HO_833000:=n2_;have HO_840000:=n3_;have HO_851000:=n4_;have HO872:=n5_;have HO878:=n6_;have HO884:=n7_;have BK814:=n8_;have BK832:=n9_;have BK839:=n10_;have BK850:=n11_;have HB:=n12_;have BK886:=n13_;have GW886:=n14_;have GE886:=n15_;have NB814_886:=n16_;have NB886_814:=n17_;have NB832_886:=n18_;have NB886_832:=n19_;have NB839_886:=n20_;have NB886_839:=n21_;have NB850_886:=n22_;have NB886_850:=n23_;clear n0_ n1_ n2_ n3_ n4_ n5_ n6_ n7_ n8_ n9_ n10_ n11_ n12_ n13_ n14_ n15_ n16_ n17_ n18_ n19_ n20_ n21_ n22_ n23_;clear hb hbox hg;obtain ⟨Ao111,co111,eo111⟩:=Kd.R_slice HO878.out;subst eo111;have hnb112:=NB886_814.out;have hnc112:=NB814_886.out;have hnb113:=NB886_832.out;have hnc113:=NB832_886.out;have hnb114:=NB886_839.out;have hnc114:=NB839_886.out;have hnb115:=NB886_850.out;have hnc115:=NB850_886.out;have hcz116_0:w110.cell? ⟨gb886,0,none⟩=some (.slice none 0 0):=(blk_cell BK886.out 0).trans rfl;have hcz116_1:w110.cell? ⟨gb886,1,none⟩=some (.int .i64 0):=(blk_cell BK886.out 1).trans rfl;have hcz116_2:w110.cell? ⟨gb886,2,none⟩=some (.string (⟨#[]⟩:ByteArray)):=(blk_cell BK886.out 2).trans rfl;have hcz116_3:w110.cell? ⟨gb886,3,none⟩=some (.int .i64 0):=(blk_cell BK886.out 3).trans rfl;have hfz116_0:=blk_frozen BK886.out 0;have hfz116_1:=blk_frozen BK886.out 1;have hfz116_2:=blk_frozen BK886.out 2;have hfz116_3:=blk_frozen BK886.out 3))
                        (try simp only [Act.put,List.setIfInBounds_toArray,List.set_cons_zero,List.set_cons_succ])
                        go_cut [124] (fun v124 wc=> ∃ (kq:Nat) (x124_93:Bool),v124= .bool x124_93 ∧ Aside0 (laws_FnExactTakeSome.j2 kq t867 t866 x124_93 t865 t843 t844 t845=some r) ∧ Aside0 (kq ≤ kj57) ∧ Aside0 (Kd.R k79 79 wc w.heap.size (fun k_=> some k_ ≠ ((.slice Ao21 t822.length co21):Value).ownBlock ∧ some k_ ≠ ((.slice Ao27 t861.length co27):Value).ownBlock ∧ some k_ ≠ ((.slice Ao33 t840.length co33):Value).ownBlock ∧ some k_ ≠ ((.slice Ao111 t876.length co111):Value).ownBlock) (.slice Ao100 t846.length co100) t867) ∧ Aside0 (Kd.R k79 79 wc w.heap.size (fun k_=> some k_ ≠ ((.slice Ao100 t846.length co100):Value).ownBlock ∧ some k_ ≠ ((.slice Ao27 t861.length co27):Value).ownBlock ∧ some k_ ≠ ((.slice Ao33 t840.length co33):Value).ownBlock ∧ some k_ ≠ ((.slice Ao111 t876.length co111):Value).ownBlock) (.slice Ao21 t822.length co21) t822) ∧ Aside0 (Kd.R k79 79 wc w.heap.size (fun k_=> some k_ ≠ ((.slice Ao100 t846.length co100):Value).ownBlock ∧ some k_ ≠ ((.slice Ao21 t822.length co21):Value).ownBlock ∧ some k_ ≠ ((.slice Ao33 t840.length co33):Value).ownBlock ∧ some k_ ≠ ((.slice Ao111 t876.length co111):Value).ownBlock) (.slice Ao27 t861.length co27) t861) ∧ Aside0 (Kd.R k79 79 wc w.heap.size (fun k_=> some k_ ≠ ((.slice Ao100 t846.length co100):Value).ownBlock ∧ some k_ ≠ ((.slice Ao21 t822.length co21):Value).ownBlock ∧ some k_ ≠ ((.slice Ao27 t861.length co27):Value).ownBlock ∧ some k_ ≠ ((.slice Ao111 t876.length co111):Value).ownBlock) (.slice Ao33 t840.length co33) t865) ∧ Aside0 (Kd.R k79 79 wc w.heap.size (fun k_=> some k_ ≠ ((.slice Ao100 t846.length co100):Value).ownBlock ∧ some k_ ≠ ((.slice Ao21 t822.length co21):Value).ownBlock ∧ some k_ ≠ ((.slice Ao27 t861.length co27):Value).ownBlock ∧ some k_ ≠ ((.slice Ao33 t840.length co33):Value).ownBlock) (.slice Ao111 t876.length co111) t876) ∧ Aside0 (wc.heap[gb814]?=some (.cells #[(.slice A0_0 l0_0.length c0_0),.int .i64 a0_1,.string a0_2,.int .i64 a0_3] 61 (0,0))) ∧ Aside0 (wc.heap[gb832]?=some (.cells #[(.slice Ao21 t822.length co21),.int .i64 t825,.string t826,.int .i64 t827] 36 (0,0))) ∧ Aside0 (wc.heap[gb839]?=some (.cells #[(.slice Ao27 t861.length co27),.int .i64 t836,.string t837,.int .i64 t838] 36 (0,0))) ∧ Aside0 (wc.heap[gb850]?=some (.cells #[(.slice Ao33 t840.length co33),.int .i64 t843,.string t844,.int .i64 t845] 36 (0,0))) ∧ Aside0 (wc.heap[gb886]?=some (.cells #[(.slice Ao111 t876.length co111),.int .i64 t879,.string t880,.int .i64 t881] 36 (0,0))) ∧ Aside0 (Below w.heap.size w wc))
                        case first=>
                          have H:=HC94.out
                          clear HC94
                          replace H:=Option.bind_eq_some_iff.mp H
                          obtain ⟨t887,A1170,H⟩:=H
                          replace H:(if t887=true then ((laws_eqExtS.f kj57 t882 t828).bind fun t888=> (if t888=true then (laws_FnExactTakeSome.j2 kj57 t867 t866 (t885 !=t831) t865 t843 t844 t845) else (none))) else (none))=some r:=H
                          have A117:=Aside0.mk A1170
                          clear A1170
                          by_cases c118:t887=true
                          · subst c118
                            have H1:((laws_eqExtS.f kj57 t882 t828).bind fun t888=> (if t888=true then (laws_FnExactTakeSome.j2 kj57 t867 t866 (t885 !=t831) t865 t843 t844 t845) else (none)))=some r:=by rw [if_pos rfl] at H;exact H
                            clear H
                            have H:=H1
                            clear H1
                            replace H:=Option.bind_eq_some_iff.mp H
                            obtain ⟨t888,A1190,H⟩:=H
                            replace H:(if t888=true then (laws_FnExactTakeSome.j2 kj57 t867 t866 (t885 !=t831) t865 t843 t844 t845) else (none))=some r:=H
                            have A119:=Aside0.mk A1190
                            clear A1190
                            by_cases c120:t888=true
                            · subst c120
                              have H1:(laws_FnExactTakeSome.j2 kj57 t867 t866 (t885 !=t831) t865 t843 t844 t845)=some r:=by rw [if_pos rfl] at H;exact H
                              clear H
                              have H:=H1
                              clear H1
                              have H':=Aside0.mk H
                              clear H
                              have hnb121:=NB886_814.out
                              have hnc121:=NB814_886.out
                              have hnb122:=NB886_832.out
                              have hnc122:=NB832_886.out
                              have hnb123:=NB886_839.out
                              have hnc123:=NB839_886.out
                              have hnb124:=NB886_850.out
                              have hnc124:=NB850_886.out
                              have hcz125_0:w110.cell? ⟨gb886,0,none⟩=some (.slice none 0 0):=(blk_cell BK886.out 0).trans rfl
                              have hcz125_1:w110.cell? ⟨gb886,1,none⟩=some (.int .i64 0):=(blk_cell BK886.out 1).trans rfl
                              have hcz125_2:w110.cell? ⟨gb886,2,none⟩=some (.string (⟨#[]⟩:ByteArray)):=(blk_cell BK886.out 2).trans rfl
                              have hcz125_3:w110.cell? ⟨gb886,3,none⟩=some (.int .i64 0):=(blk_cell BK886.out 3).trans rfl
                              have hfz125_0:=blk_frozen BK886.out 0
                              have hfz125_1:=blk_frozen BK886.out 1
                              have hfz125_2:=blk_frozen BK886.out 2
                              have hfz125_3:=blk_frozen BK886.out 3
                              have hnb126:=NB832_814.out
                              have hnc126:=NB814_832.out
                              have hnb127:=NB832_839.out
                              have hnc127:=NB839_832.out
                              have hnb128:=NB832_850.out
                              have hnc128:=NB850_832.out
                              have hcz129_0:w110.cell? ⟨gb832,0,none⟩=some (.slice Ao21 t822.length co21):=(blk_cell BK832.out 0).trans rfl
                              have hcz129_1:w110.cell? ⟨gb832,1,none⟩=some (.int .i64 t825):=(blk_cell BK832.out 1).trans rfl
                              have hcz129_2:w110.cell? ⟨gb832,2,none⟩=some (.string t826):=(blk_cell BK832.out 2).trans rfl
                              have hcz129_3:w110.cell? ⟨gb832,3,none⟩=some (.int .i64 t827):=(blk_cell BK832.out 3).trans rfl
                              have hfz129_0:=blk_frozen BK832.out 0
                              have hfz129_1:=blk_frozen BK832.out 1
                              have hfz129_2:=blk_frozen BK832.out 2
                              have hfz129_3:=blk_frozen BK832.out 3
                              go_wp2_with (first|((with_reducible refine gate_callee (f:=36) rfl ?_);refine goesL_ (some 112) rfl rfl Try.func36 (by kernel_rfl) rfl #[.agg #[.slice Ao111 t876.length co111,.int .i64 t879,.string t880,.int .i64 t881],.agg #[.slice Ao21 t822.length co21,.int .i64 t825,.string t826,.int .i64 t827]] rfl (by (try simp only [List.map_toArray,List.map_cons,List.map_nil]);first|done|rfl|(simp only [List.length_drop,List.length_take];rfl)) ?_;(with_reducible refine (laws_eqSource.calls kj57 _ _ t876 t879 t880 t881 _ _ t822 t825 t826 t827 true _ ?side1 ?side2 ?side3 ?side4 A117.out).mono ?_);(case side1=> refine (Kd.R_reads' (e:=79) (base:=w.heap.size) (ok:=fun k_=> ((((((some k_ ≠ (v883:Value).ownBlock ∧ some k_ ≠ (v829:Value).ownBlock) ∧ some k_ ≠ (.slice Ao100 t846.length co100:Value).ownBlock) ∧ some k_ ≠ (.slice Ao21 t822.length co21:Value).ownBlock) ∧ some k_ ≠ (.slice Ao27 t861.length co27:Value).ownBlock) ∧ some k_ ≠ (.slice Ao33 t840.length co33:Value).ownBlock) ∧ some k_ ≠ (.slice Ao108 t870.length co108:Value).ownBlock)) (n:=t876.length) (c:=co111) ?_).2.2;exact (by (with_reducible repeat (first|apply Kd.R_alloc|apply Kd.R_drewN|apply Kd.R_drew));exact (Kd.R_mono (Kd.R_far (p:=⟨gb886,3,none⟩) (Kd.R_far (p:=⟨gb886,2,none⟩) (Kd.R_far (p:=⟨gb886,1,none⟩) (Kd.R_far (p:=⟨gb886,0,none⟩) (Kd.R_types HO878.out BK886.out (by decide)) (fun _ hk=> hk.2) (.slice Ao111 t876.length co111)) (fun _ hk=> hk.2) (.int .i64 t879)) (fun _ hk=> hk.2) (.string t880)) (fun _ hk=> hk.2) (.int .i64 t881)) (fun _ h_=> h_.1))));(case side2=> exact (Kd.R_reads' HO878.out).2.1);(case side3=> refine (Kd.R_reads' (e:=79) (base:=w.heap.size) (ok:=fun k_=> ((((some k_ ≠ (v829:Value).ownBlock ∧ (some k_ ≠ (.slice Ao100 t846.length co100:Value).ownBlock ∧ (some k_ ≠ (.slice Ao27 t861.length co27:Value).ownBlock ∧ some k_ ≠ (.slice Ao33 t840.length co33:Value).ownBlock))) ∧ some k_ ≠ (.slice Ao108 t870.length co108:Value).ownBlock) ∧ some k_ ≠ (.slice Ao111 t876.length co111:Value).ownBlock) ∧ some k_ ≠ (v883:Value).ownBlock)) (n:=t822.length) (c:=co21) ?_).2.2;exact (by (with_reducible repeat (first|apply Kd.R_alloc|apply Kd.R_drewN|apply Kd.R_drew));exact (Kd.R_mono (Kd.R_far (p:=⟨gb886,3,none⟩) (Kd.R_far (p:=⟨gb886,2,none⟩) (Kd.R_far (p:=⟨gb886,1,none⟩) (Kd.R_far (p:=⟨gb886,0,none⟩) (Kd.R_types HO_833000.out BK886.out (by decide)) (fun _ hk=> hk.2) (.slice Ao111 t876.length co111)) (fun _ hk=> hk.2) (.int .i64 t879)) (fun _ hk=> hk.2) (.string t880)) (fun _ hk=> hk.2) (.int .i64 t881)) (fun _ h_=> h_.1))));(case side4=> exact (Kd.R_reads' HO_833000.out).2.1);rintro e w130 ⟨rfl,hb⟩;refine ⟨_,rfl,?_⟩;have n0_:=Aside0.mk (Kd.R_below (by (with_reducible repeat (first|apply Kd.R_alloc|apply Kd.R_drewN|apply Kd.R_drew));exact (Kd.R_mono (Kd.R_far (p:=⟨gb886,3,none⟩) (Kd.R_far (p:=⟨gb886,2,none⟩) (Kd.R_far (p:=⟨gb886,1,none⟩) (Kd.R_far (p:=⟨gb886,0,none⟩) (Kd.R_types HO_7.out BK886.out (by decide)) (fun _ hk=> hk.2) (.slice Ao111 t876.length co111)) (fun _ hk=> hk.2) (.int .i64 t879)) (fun _ hk=> hk.2) (.string t880)) (fun _ hk=> hk.2) (.int .i64 t881)) (fun _ h_=> h_.1))) hb);have n1_:=Aside0.mk (Kd.R_below (by (with_reducible repeat (first|apply Kd.R_alloc|apply Kd.R_drewN|apply Kd.R_drew));exact (Kd.R_mono (Kd.R_far (p:=⟨gb886,3,none⟩) (Kd.R_far (p:=⟨gb886,2,none⟩) (Kd.R_far (p:=⟨gb886,1,none⟩) (Kd.R_far (p:=⟨gb886,0,none⟩) (Kd.R_types HO_11.out BK886.out (by decide)) (fun _ hk=> hk.2) (.slice Ao111 t876.length co111)) (fun _ hk=> hk.2) (.int .i64 t879)) (fun _ hk=> hk.2) (.string t880)) (fun _ hk=> hk.2) (.int .i64 t881)) (fun _ h_=> h_.1))) hb);have n2_:=Aside0.mk (Kd.R_below (by (with_reducible repeat (first|apply Kd.R_alloc|apply Kd.R_drewN|apply Kd.R_drew));exact (Kd.R_mono (Kd.R_far (p:=⟨gb886,3,none⟩) (Kd.R_far (p:=⟨gb886,2,none⟩) (Kd.R_far (p:=⟨gb886,1,none⟩) (Kd.R_far (p:=⟨gb886,0,none⟩) (Kd.R_types HO_833000.out BK886.out (by decide)) (fun _ hk=> hk.2) (.slice Ao111 t876.length co111)) (fun _ hk=> hk.2) (.int .i64 t879)) (fun _ hk=> hk.2) (.string t880)) (fun _ hk=> hk.2) (.int .i64 t881)) (fun _ h_=> h_.1))) hb);have n3_:=Aside0.mk (Kd.R_below (by (with_reducible repeat (first|apply Kd.R_alloc|apply Kd.R_drewN|apply Kd.R_drew));exact (Kd.R_mono (Kd.R_far (p:=⟨gb886,3,none⟩) (Kd.R_far (p:=⟨gb886,2,none⟩) (Kd.R_far (p:=⟨gb886,1,none⟩) (Kd.R_far (p:=⟨gb886,0,none⟩) (Kd.R_types HO_840000.out BK886.out (by decide)) (fun _ hk=> hk.2) (.slice Ao111 t876.length co111)) (fun _ hk=> hk.2) (.int .i64 t879)) (fun _ hk=> hk.2) (.string t880)) (fun _ hk=> hk.2) (.int .i64 t881)) (fun _ h_=> h_.1))) hb);have n4_:=Aside0.mk (Kd.R_below (by (with_reducible repeat (first|apply Kd.R_alloc|apply Kd.R_drewN|apply Kd.R_drew));exact (Kd.R_mono (Kd.R_far (p:=⟨gb886,3,none⟩) (Kd.R_far (p:=⟨gb886,2,none⟩) (Kd.R_far (p:=⟨gb886,1,none⟩) (Kd.R_far (p:=⟨gb886,0,none⟩) (Kd.R_types HO_851000.out BK886.out (by decide)) (fun _ hk=> hk.2) (.slice Ao111 t876.length co111)) (fun _ hk=> hk.2) (.int .i64 t879)) (fun _ hk=> hk.2) (.string t880)) (fun _ hk=> hk.2) (.int .i64 t881)) (fun _ h_=> h_.1))) hb);have n5_:=Aside0.mk (Kd.R_below (by (with_reducible repeat (first|apply Kd.R_alloc|apply Kd.R_drewN|apply Kd.R_drew));exact (Kd.R_mono (Kd.R_far (p:=⟨gb886,3,none⟩) (Kd.R_far (p:=⟨gb886,2,none⟩) (Kd.R_far (p:=⟨gb886,1,none⟩) (Kd.R_far (p:=⟨gb886,0,none⟩) (Kd.R_types HO872.out BK886.out (by decide)) (fun _ hk=> hk.2) (.slice Ao111 t876.length co111)) (fun _ hk=> hk.2) (.int .i64 t879)) (fun _ hk=> hk.2) (.string t880)) (fun _ hk=> hk.2) (.int .i64 t881)) (fun _ h_=> h_.1))) hb);have n6_:=Aside0.mk (Kd.R_below (by (with_reducible repeat (first|apply Kd.R_alloc|apply Kd.R_drewN|apply Kd.R_drew));exact (Kd.R_mono (Kd.R_far (p:=⟨gb886,3,none⟩) (Kd.R_far (p:=⟨gb886,2,none⟩) (Kd.R_far (p:=⟨gb886,1,none⟩) (Kd.R_far (p:=⟨gb886,0,none⟩) (Kd.R_types HO878.out BK886.out (by decide)) (fun _ hk=> hk.2) (.slice Ao111 t876.length co111)) (fun _ hk=> hk.2) (.int .i64 t879)) (fun _ hk=> hk.2) (.string t880)) (fun _ hk=> hk.2) (.int .i64 t881)) (fun _ h_=> h_.1))) hb);have n7_:=Aside0.mk (Kd.R_below (by (with_reducible repeat (first|apply Kd.R_alloc|apply Kd.R_drewN|apply Kd.R_drew));exact (Kd.R_mono (Kd.R_far (p:=⟨gb886,3,none⟩) (Kd.R_far (p:=⟨gb886,2,none⟩) (Kd.R_far (p:=⟨gb886,1,none⟩) (Kd.R_far (p:=⟨gb886,0,none⟩) (Kd.R_types HO884.out BK886.out (by decide)) (fun _ hk=> hk.2) (.slice Ao111 t876.length co111)) (fun _ hk=> hk.2) (.int .i64 t879)) (fun _ hk=> hk.2) (.string t880)) (fun _ hk=> hk.2) (.int .i64 t881)) (fun _ h_=> h_.1))) hb);have n8_:=Aside0.mk (blk_below (g:=gb814) (o:= .cells #[.slice A0_0 l0_0.length c0_0,.int .i64 a0_1,.string a0_2,.int .i64 a0_3] 61 (0,0)) (by (with_reducible repeat (first|apply bN|apply bd|apply bA));refine blk_far ?_ NB814_886.out _;(with_reducible repeat (first|apply bN|apply bd|apply bA));refine blk_far ?_ NB814_886.out _;(with_reducible repeat (first|apply bN|apply bd|apply bA));refine blk_far ?_ NB814_886.out _;(with_reducible repeat (first|apply bN|apply bd|apply bA));refine blk_far ?_ NB814_886.out _;(with_reducible repeat (first|apply bN|apply bd|apply bA));exact BK814.out) hb);have n9_:=Aside0.mk (blk_below (g:=gb832) (o:= .cells #[.slice Ao21 t822.length co21,.int .i64 t825,.string t826,.int .i64 t827] 36 (0,0)) (by (with_reducible repeat (first|apply bN|apply bd|apply bA));refine blk_far ?_ NB832_886.out _;(with_reducible repeat (first|apply bN|apply bd|apply bA));refine blk_far ?_ NB832_886.out _;(with_reducible repeat (first|apply bN|apply bd|apply bA));refine blk_far ?_ NB832_886.out _;(with_reducible repeat (first|apply bN|apply bd|apply bA));refine blk_far ?_ NB832_886.out _;(with_reducible repeat (first|apply bN|apply bd|apply bA));exact BK832.out) hb);have n10_:=Aside0.mk (blk_below (g:=gb839) (o:= .cells #[.slice Ao27 t861.length co27,.int .i64 t836,.string t837,.int .i64 t838] 36 (0,0)) (by (with_reducible repeat (first|apply bN|apply bd|apply bA));refine blk_far ?_ NB839_886.out _;(with_reducible repeat (first|apply bN|apply bd|apply bA));refine blk_far ?_ NB839_886.out _;(with_reducible repeat (first|apply bN|apply bd|apply bA));refine blk_far ?_ NB839_886.out _;(with_reducible repeat (first|apply bN|apply bd|apply bA));refine blk_far ?_ NB839_886.out _;(with_reducible repeat (first|apply bN|apply bd|apply bA));exact BK839.out) hb);have n11_:=Aside0.mk (blk_below (g:=gb850) (o:= .cells #[.slice Ao33 t840.length co33,.int .i64 t843,.string t844,.int .i64 t845] 36 (0,0)) (by (with_reducible repeat (first|apply bN|apply bd|apply bA));refine blk_far ?_ NB850_886.out _;(with_reducible repeat (first|apply bN|apply bd|apply bA));refine blk_far ?_ NB850_886.out _;(with_reducible repeat (first|apply bN|apply bd|apply bA));refine blk_far ?_ NB850_886.out _;(with_reducible repeat (first|apply bN|apply bd|apply bA));refine blk_far ?_ NB850_886.out _;(with_reducible repeat (first|apply bN|apply bd|apply bA));exact BK850.out) hb);have n12_:=Aside0.mk (blk_below (g:=gb886) (o:= .cells #[.slice Ao111 t876.length co111,.int .i64 t879,.string t880,.int .i64 t881] 36 (0,0)) (by (with_reducible repeat (first|apply bN|apply bd|apply bA));refine blk_put (cs:= #[.slice Ao111 t876.length co111,.int .i64 t879,.string t880,.int .i64 0]) ?_ 3 _ rfl;(with_reducible repeat (first|apply bN|apply bd|apply bA));refine blk_put (cs:= #[.slice Ao111 t876.length co111,.int .i64 t879,.string (⟨#[]⟩:ByteArray),.int .i64 0]) ?_ 2 _ rfl;(with_reducible repeat (first|apply bN|apply bd|apply bA));refine blk_put (cs:= #[.slice Ao111 t876.length co111,.int .i64 0,.string (⟨#[]⟩:ByteArray),.int .i64 0]) ?_ 1 _ rfl;(with_reducible repeat (first|apply bN|apply bd|apply bA));refine blk_put (cs:= #[.slice none 0 0,.int .i64 0,.string (⟨#[]⟩:ByteArray),.int .i64 0]) ?_ 0 _ rfl;(with_reducible repeat (first|apply bN|apply bd|apply bA));exact BK886.out) hb);have n13_:=Aside0.mk (below_step (by repeat (first|(with_reducible first|exact HB.out|apply below_alloc|apply pw_below_drewN|apply below_drew1|refine below_set ?_ GE814.out|refine below_set ?_ GE832.out|refine below_set ?_ GE839.out|refine below_set ?_ GE850.out|refine below_set ?_ GE886.out)|exact HB.out)) hb);clear HO_7;clear HO_11;clear HO_833000;clear HO_840000;clear HO_851000;clear HO872;clear HO878;clear HO884;clear BK814;clear BK832;clear BK839;clear BK850;clear BK886;clear HB;have HO_7:=n0_;have HO_11:=n1_;have HO_833000:=n2_;have HO_840000:=n3_;have HO_851000:=n4_;have HO872:=n5_;have HO878:=n6_;have HO884:=n7_;have BK814:=n8_;have BK832:=n9_;have BK839:=n10_;have BK850:=n11_;have BK886:=n12_;have HB:=n13_;clear n0_ n1_ n2_ n3_ n4_ n5_ n6_ n7_ n8_ n9_ n10_ n11_ n12_ n13_;(try clear hb);(try clear hb2);(try clear hk);(try clear hi);obtain ⟨Ao131,co131,eo131⟩:=Kd.R_slice HO884.out;subst eo131;obtain ⟨Ao132,co132,eo132⟩:=Kd.R_slice HO_7.out;subst eo132)|(go_at_call 63;(with_reducible refine (laws_eqExtS.calls kj57 _ _ t882 _ _ t828 true _ ?side1 ?side2 ?side3 ?side4 A119.out).mono ?_);(case side1=> repeat (first|exact (Kd.R_reads' HO884.out).2.2|(with_reducible refine Kd.C_alloc ?_ _)|(with_reducible refine Kd.C_drewN ?_ _)|(with_reducible refine Kd.C_drew ?_)));(case side2=> exact (Kd.R_reads' HO884.out).2.1);(case side3=> repeat (first|exact (Kd.R_reads' HO_7.out).2.2|(with_reducible refine Kd.C_alloc ?_ _)|(with_reducible refine Kd.C_drewN ?_ _)|(with_reducible refine Kd.C_drew ?_)));(case side4=> exact (Kd.R_reads' HO_7.out).2.1);rintro e w133 ⟨rfl,hb⟩;have n0_:=Aside0.mk (Kd.R_below (by (with_reducible repeat (first|apply Kd.R_alloc|apply Kd.R_drewN|apply Kd.R_drew));exact HO_7.out) hb);have n1_:=Aside0.mk (Kd.R_below (by (with_reducible repeat (first|apply Kd.R_alloc|apply Kd.R_drewN|apply Kd.R_drew));exact HO_11.out) hb);have n2_:=Aside0.mk (Kd.R_below (by (with_reducible repeat (first|apply Kd.R_alloc|apply Kd.R_drewN|apply Kd.R_drew));exact HO_833000.out) hb);have n3_:=Aside0.mk (Kd.R_below (by (with_reducible repeat (first|apply Kd.R_alloc|apply Kd.R_drewN|apply Kd.R_drew));exact HO_840000.out) hb);have n4_:=Aside0.mk (Kd.R_below (by (with_reducible repeat (first|apply Kd.R_alloc|apply Kd.R_drewN|apply Kd.R_drew));exact HO_851000.out) hb);have n5_:=Aside0.mk (Kd.R_below (by (with_reducible repeat (first|apply Kd.R_alloc|apply Kd.R_drewN|apply Kd.R_drew));exact HO872.out) hb);have n6_:=Aside0.mk (Kd.R_below (by (with_reducible repeat (first|apply Kd.R_alloc|apply Kd.R_drewN|apply Kd.R_drew));exact HO878.out) hb);have n7_:=Aside0.mk (Kd.R_below (by (with_reducible repeat (first|apply Kd.R_alloc|apply Kd.R_drewN|apply Kd.R_drew));exact HO884.out) hb);have n8_:=Aside0.mk (blk_below (g:=gb814) (o:= .cells #[.slice A0_0 l0_0.length c0_0,.int .i64 a0_1,.string a0_2,.int .i64 a0_3] 61 (0,0)) (by (with_reducible repeat (first|apply bN|apply bd|apply bA));exact BK814.out) hb);have n9_:=Aside0.mk (blk_below (g:=gb832) (o:= .cells #[.slice Ao21 t822.length co21,.int .i64 t825,.string t826,.int .i64 t827] 36 (0,0)) (by (with_reducible repeat (first|apply bN|apply bd|apply bA));exact BK832.out) hb);have n10_:=Aside0.mk (blk_below (g:=gb839) (o:= .cells #[.slice Ao27 t861.length co27,.int .i64 t836,.string t837,.int .i64 t838] 36 (0,0)) (by (with_reducible repeat (first|apply bN|apply bd|apply bA));exact BK839.out) hb);have n11_:=Aside0.mk (blk_below (g:=gb850) (o:= .cells #[.slice Ao33 t840.length co33,.int .i64 t843,.string t844,.int .i64 t845] 36 (0,0)) (by (with_reducible repeat (first|apply bN|apply bd|apply bA));exact BK850.out) hb);have n12_:=Aside0.mk (blk_below (g:=gb886) (o:= .cells #[.slice Ao111 t876.length co111,.int .i64 t879,.string t880,.int .i64 t881] 36 (0,0)) (by (with_reducible repeat (first|apply bN|apply bd|apply bA));exact BK886.out) hb);have n13_:=Aside0.mk (below_step (by repeat (first|(with_reducible first|exact HB.out|apply below_alloc|apply pw_below_drewN|apply below_drew1|refine below_set ?_ GE814.out|refine below_set ?_ GE832.out|refine below_set ?_ GE839.out|refine below_set ?_ GE850.out|refine below_set ?_ GE886.out)|exact HB.out)) hb);clear HO_7;clear HO_11;clear HO_833000;clear HO_840000;clear HO_851000;clear HO872;clear HO878;clear HO884;clear BK814;clear BK832;clear BK839;clear BK850;clear BK886;clear HB;have HO_7:=n0_;have HO_11:=n1_;have HO_833000:=n2_;have HO_840000:=n3_;have HO_851000:=n4_;have HO872:=n5_;have HO878:=n6_;have HO884:=n7_;have BK814:=n8_;have BK832:=n9_;have BK839:=n10_;have BK850:=n11_;have BK886:=n12_;have HB:=n13_;clear n0_ n1_ n2_ n3_ n4_ n5_ n6_ n7_ n8_ n9_ n10_ n11_ n12_ n13_;(try clear hb);(try clear hb2);(try clear hk);(try clear hi)))
                              go_meet
                              case rel=> exact ⟨_,((t885 !=t831)),(by first|rfl|(simp;done)|(simp [*];done)),H',⟨by have:=HJ11.out;have:=HJ57.out;first|omega|exact Nat.le_refl _⟩,⟨by (try simp only [hl840000_57]);(with_reducible repeat (first|apply Kd.R_alloc|apply Kd.R_drewN|apply Kd.R_drew));exact Kd.R_mono HO_11.out (fun _ hk=> ⟨hk.1.1.1.2.1,⟨hk.1.1.1.2.2.1,⟨hk.1.1.1.2.2.2,hk.1.2⟩⟩⟩)⟩,⟨by (try simp only [hl840000_57]);(with_reducible repeat (first|apply Kd.R_alloc|apply Kd.R_drewN|apply Kd.R_drew));exact Kd.R_mono HO_833000.out (fun _ hk=> ⟨hk.1.1.1.2.1,⟨hk.1.1.1.2.2.1,⟨hk.1.1.1.2.2.2,hk.1.2⟩⟩⟩)⟩,⟨by (try simp only [hl840000_57]);(with_reducible repeat (first|apply Kd.R_alloc|apply Kd.R_drewN|apply Kd.R_drew));exact Kd.R_mono HO_840000.out (fun _ hk=> ⟨hk.1.1.1.2.1,⟨hk.1.1.1.2.2.1,⟨hk.1.1.1.2.2.2,hk.1.2⟩⟩⟩)⟩,⟨by (try simp only [hl840000_57]);(with_reducible repeat (first|apply Kd.R_alloc|apply Kd.R_drewN|apply Kd.R_drew));exact Kd.R_mono HO_851000.out (fun _ hk=> ⟨hk.1.1.1.2.1,⟨hk.1.1.1.2.2.1,⟨hk.1.1.1.2.2.2,hk.1.2⟩⟩⟩)⟩,⟨by (try simp only [hl840000_57]);(with_reducible repeat (first|apply Kd.R_alloc|apply Kd.R_drewN|apply Kd.R_drew));exact Kd.R_mono HO878.out (fun _ hk=> ⟨hk.1.1.1.1.2,⟨hk.1.1.1.2,⟨hk.1.1.2,hk.1.2⟩⟩⟩)⟩,⟨by (try simp only [hl840000_57]);(with_reducible repeat (first|apply bN|apply bd|apply bA));exact BK814.out⟩,⟨by (try simp only [hl840000_57]);(with_reducible repeat (first|apply bN|apply bd|apply bA));exact BK832.out⟩,⟨by (try simp only [hl840000_57]);(with_reducible repeat (first|apply bN|apply bd|apply bA));exact BK839.out⟩,⟨by (try simp only [hl840000_57]);(with_reducible repeat (first|apply bN|apply bd|apply bA));exact BK850.out⟩,⟨by (try simp only [hl840000_57]);(with_reducible repeat (first|apply bN|apply bd|apply bA));exact BK886.out⟩,⟨by repeat (first|(with_reducible first|exact HB.out|apply below_alloc|apply pw_below_drewN|apply below_drew1|refine below_set ?_ GE814.out|refine below_set ?_ GE832.out|refine below_set ?_ GE839.out|refine below_set ?_ GE850.out|refine below_set ?_ GE886.out)|exact HB.out)⟩⟩
                            · replace c120:=Bool.eq_false_iff.mpr c120
                              subst c120
                              have H1:(none)=some r:=by rw [if_neg (show ¬ (false=true) by decide)] at H;exact H
                              clear H
                              have H:=H1
                              clear H1
                              exact absurd H (by simp)
                          · replace c118:=Bool.eq_false_iff.mpr c118
                            subst c118
                            have H1:(none)=some r:=by rw [if_neg (show ¬ (false=true) by decide)] at H;exact H
                            clear H
                            have H:=H1
                            clear H1
                            exact absurd H (by simp)
                        case rest=>
                          clear HC94
                          try clear c1
                          try clear c2
                          try clear p2
                          try clear c3
                          try clear c4
                          try clear c4b0
                          try clear c5
                          try clear c6
                          try clear c7
                          try clear c8
                          try clear c9
                          try clear c10
                          try clear c11
                          try clear c12
                          try clear c19
                          try clear c22
                          try clear c28
                          try clear c29
                          try clear c34
                          try clear c35
                          try clear c36
                          try clear c37
                          try clear c38
                          try clear c39
                          try clear c41
                          try clear c42
                          try clear c43
                          try clear c44
                          try clear c46
                          try clear c47
                          try clear c53
                          try clear c55
                          try clear c56
                          try clear c63
                          try clear c64
                          try clear c65
                          try clear c68
                          try clear c68b0
                          try clear c70
                          try clear c72
                          try clear c73
                          try clear c74
                          try clear c75
                          try clear c77
                          try clear c78
                          try clear c84
                          try clear c88
                          try clear c88b0
                          try clear c90
                          try clear c90b0
                          try clear c91
                          try clear c91b0
                          try clear c91b1
                          try clear c95
                          try clear c96
                          try clear c97
                          try clear c104
                          try clear c105
                          try clear c112
                          try clear c113
                          try clear c114
                          try clear c115
                          try clear c118
                          try clear c120
                          try clear c121
                          try clear c122
                          try clear c123
                          try clear c124
                          try clear c126
                          try clear c127
                          try clear c128
                          try clear hcz102_0
                          try clear hcz102_1
                          try clear hcz102_2
                          try clear hcz102_3
                          try clear hcz106_0
                          try clear hcz106_1
                          try clear hcz106_2
                          try clear hcz106_3
                          try clear hcz116_0
                          try clear hcz116_1
                          try clear hcz116_2
                          try clear hcz116_3
                          try clear hcz125_0
                          try clear hcz125_1
                          try clear hcz125_2
                          try clear hcz125_3
                          try clear hcz129_0
                          try clear hcz129_1
                          try clear hcz129_2
                          try clear hcz129_3
                          try clear hcz14_0
                          try clear hcz14_1
                          try clear hcz14_2
                          try clear hcz14_3
                          try clear hcz16_0
                          try clear hcz16_1
                          try clear hcz16_2
                          try clear hcz16_3
                          try clear hcz23_0
                          try clear hcz23_1
                          try clear hcz23_2
                          try clear hcz23_3
                          try clear hcz24_0
                          try clear hcz24_1
                          try clear hcz24_2
                          try clear hcz24_3
                          try clear hcz30_0
                          try clear hcz30_1
                          try clear hcz30_2
                          try clear hcz30_3
                          try clear hcz37_0
                          try clear hcz37_1
                          try clear hcz37_2
                          try clear hcz37_3
                          try clear hcz45_0
                          try clear hcz45_1
                          try clear hcz45_2
                          try clear hcz45_3
                          try clear hcz48_0
                          try clear hcz48_1
                          try clear hcz48_2
                          try clear hcz48_3
                          try clear hcz66_0
                          try clear hcz66_1
                          try clear hcz66_2
                          try clear hcz66_3
                          try clear hcz6_0
                          try clear hcz6_1
                          try clear hcz6_2
                          try clear hcz6_3
                          try clear hcz76_0
                          try clear hcz76_1
                          try clear hcz76_2
                          try clear hcz76_3
                          try clear hcz79_0
                          try clear hcz79_1
                          try clear hcz79_2
                          try clear hcz79_3
                          try clear hcz98_0
                          try clear hcz98_1
                          try clear hcz98_2
                          try clear hcz98_3
                          try clear hfz102_0
                          try clear hfz102_1
                          try clear hfz102_2
                          try clear hfz102_3
                          try clear hfz106_0
                          try clear hfz106_1
                          try clear hfz106_2
                          try clear hfz106_3
                          try clear hfz116_0
                          try clear hfz116_1
                          try clear hfz116_2
                          try clear hfz116_3
                          try clear hfz125_0
                          try clear hfz125_1
                          try clear hfz125_2
                          try clear hfz125_3
                          try clear hfz129_0
                          try clear hfz129_1
                          try clear hfz129_2
                          try clear hfz129_3
                          try clear hfz14_0
                          try clear hfz14_1
                          try clear hfz14_2
                          try clear hfz14_3
                          try clear hfz16_0
                          try clear hfz16_1
                          try clear hfz16_2
                          try clear hfz16_3
                          try clear hfz23_0
                          try clear hfz23_1
                          try clear hfz23_2
                          try clear hfz23_3
                          try clear hfz24_0
                          try clear hfz24_1
                          try clear hfz24_2
                          try clear hfz24_3
                          try clear hfz30_0
                          try clear hfz30_1
                          try clear hfz30_2
                          try clear hfz30_3
                          try clear hfz37_0
                          try clear hfz37_1
                          try clear hfz37_2
                          try clear hfz37_3
                          try clear hfz45_0
                          try clear hfz45_1
                          try clear hfz45_2
                          try clear hfz45_3
                          try clear hfz48_0
                          try clear hfz48_1
                          try clear hfz48_2
                          try clear hfz48_3
                          try clear hfz66_0
                          try clear hfz66_1
                          try clear hfz66_2
                          try clear hfz66_3
                          try clear hfz6_0
                          try clear hfz6_1
                          try clear hfz6_2
                          try clear hfz6_3
                          try clear hfz76_0
                          try clear hfz76_1
                          try clear hfz76_2
                          try clear hfz76_3
                          try clear hfz79_0
                          try clear hfz79_1
                          try clear hfz79_2
                          try clear hfz79_3
                          try clear hfz98_0
                          try clear hfz98_1
                          try clear hfz98_2
                          try clear hfz98_3
                          try clear p2
                          obtain ⟨kq,x124_93,rfl,HA,HJ93,HO_11,HO_833000,HO_840000,HO_851000,HO_887000,BK814,BK832,BK839,BK850,BK886,HB⟩:=hcut
                          have hl11_93:=(Kd.R_reads' HO_11.out).1
                          rw [hl11_93] at HO_11
                          (try simp only [hl11_93])
                          (try simp only [hl11_93] at BK814)
                          (try simp only [hl11_93] at BK832)
                          (try simp only [hl11_93] at BK839)
                          (try simp only [hl11_93] at BK850)
                          (try simp only [hl11_93] at BK886)
                          (try simp only [hl11_93] at HO_833000)
                          (try simp only [hl11_93] at HO_840000)
                          (try simp only [hl11_93] at HO_851000)
                          (try simp only [hl11_93] at HO_887000)
                          have hl851000_93:=(Kd.R_reads' HO_851000.out).1
                          rw [hl851000_93] at HO_851000
                          (try simp only [hl851000_93])
                          (try simp only [hl851000_93] at BK814)
                          (try simp only [hl851000_93] at BK832)
                          (try simp only [hl851000_93] at BK839)
                          (try simp only [hl851000_93] at BK850)
                          (try simp only [hl851000_93] at BK886)
                          (try simp only [hl851000_93] at HO_11)
                          (try simp only [hl851000_93] at HO_833000)
                          (try simp only [hl851000_93] at HO_840000)
                          (try simp only [hl851000_93] at HO_887000)
                          cases kq with
                          |zero=> exact absurd HA.out (by simp [laws_FnExactTakeSome.j2])
                          |succ kj93=>
                            have H:=HA.out
                            clear HA
                            simp only [laws_FnExactTakeSome.j2] at H
                            by_cases c134:x124_93=true
                            · subst c134
                              have H1:(none)=some r:=by rw [if_pos rfl] at H;exact H
                              clear H
                              have H:=H1
                              clear H1
                              exact absurd H (by simp)
                            · replace c134:=Bool.eq_false_iff.mpr c134
                              subst c134
                              have H1:((laws_heldSource.f kj93 t865 t843 t844 t845 1).bind fun t889=> (if t889 < 0 then (none) else ((laws_heldExtS.f kj93 t867 t889).bind fun t890=> (if t890 < 0 then (none) else (if t890=t866 then (some true) else (none))))))=some r:=by rw [if_neg (show ¬ (false=true) by decide)] at H;exact H
                              clear H
                              have H:=H1
                              clear H1
                              replace H:=Option.bind_eq_some_iff.mp H
                              obtain ⟨t889,A1350,H⟩:=H
                              replace H:(if t889 < 0 then (none) else ((laws_heldExtS.f kj93 t867 t889).bind fun t890=> (if t890 < 0 then (none) else (if t890=t866 then (some true) else (none)))))=some r:=H
                              have A135:=Aside0.mk A1350
                              clear A1350
                              by_cases c136:t889 < 0
                              · rw [if_pos c136] at H
                                exact absurd H (by simp)
                              · rw [if_neg c136] at H
                                have c136b0:decide (t889 < 0)=false:=decide_eq_false c136
                                clear c136
                                replace H:=Option.bind_eq_some_iff.mp H
                                obtain ⟨t890,A1370,H⟩:=H
                                replace H:(if t890 < 0 then (none) else (if t890=t866 then (some true) else (none)))=some r:=H
                                have A137:=Aside0.mk A1370
                                clear A1370
                                by_cases c138:t890 < 0
                                · rw [if_pos c138] at H
                                  exact absurd H (by simp)
                                · rw [if_neg c138] at H
                                  have c138b0:decide (t890 < 0)=false:=decide_eq_false c138
                                  clear c138
                                  by_cases c139:t890=t866
                                  · rw [if_pos c139] at H
                                    have c139b0:(t890==t866)=true:=beq_iff_eq.mpr c139
                                    have c139b1:(t890 !=t866)=false:=bne_eq_false_iff_eq.mpr c139
                                    clear c139
                                    obtain rfl:=Option.some.inj H
                                    have hnb140:=NB850_814.out
                                    have hnc140:=NB814_850.out
                                    have hnb141:=NB850_832.out
                                    have hnc141:=NB832_850.out
                                    have hnb142:=NB850_839.out
                                    have hnc142:=NB839_850.out
                                    have hnb143:=NB850_886.out
                                    have hnc143:=NB886_850.out
                                    have hcz144_0:wc.cell? ⟨gb850,0,none⟩=some (.slice Ao33 t865.length co33):=(blk_cell BK850.out 0).trans rfl
                                    have hcz144_1:wc.cell? ⟨gb850,1,none⟩=some (.int .i64 t843):=(blk_cell BK850.out 1).trans rfl
                                    have hcz144_2:wc.cell? ⟨gb850,2,none⟩=some (.string t844):=(blk_cell BK850.out 2).trans rfl
                                    have hcz144_3:wc.cell? ⟨gb850,3,none⟩=some (.int .i64 t845):=(blk_cell BK850.out 3).trans rfl
                                    have hfz144_0:=blk_frozen BK850.out 0
                                    have hfz144_1:=blk_frozen BK850.out 1
                                    have hfz144_2:=blk_frozen BK850.out 2
                                    have hfz144_3:=blk_frozen BK850.out 3
                                    go_wp2_with (first|((with_reducible refine gate_callee (f:=38) rfl ?_);refine goesL_ (some 127) rfl rfl Try.func38 (by kernel_rfl) rfl #[.agg #[.slice Ao33 t865.length co33,.int .i64 t843,.string t844,.int .i64 t845],.int .i64 1] rfl (by (try simp only [List.map_toArray,List.map_cons,List.map_nil]);first|done|rfl|(simp only [List.length_drop,List.length_take];rfl)) ?_;(with_reducible refine (laws_heldSource.calls kj93 _ _ t865 t843 t844 t845 1 t889 _ ?side1 ?side2 A135.out).mono ?_);(case side1=> repeat (first|exact (Kd.R_reads' HO_851000.out).2.2|(with_reducible refine Kd.C_alloc ?_ _)|(with_reducible refine Kd.C_drewN ?_ _)|(with_reducible refine Kd.C_drew ?_)));(case side2=> exact (Kd.R_reads' HO_851000.out).2.1);rintro e w145 ⟨rfl,hb⟩;refine ⟨_,rfl,?_⟩;have n0_:=Aside0.mk (Kd.R_below (by (with_reducible repeat (first|apply Kd.R_alloc|apply Kd.R_drewN|apply Kd.R_drew));exact HO_11.out) hb);have n1_:=Aside0.mk (Kd.R_below (by (with_reducible repeat (first|apply Kd.R_alloc|apply Kd.R_drewN|apply Kd.R_drew));exact HO_833000.out) hb);have n2_:=Aside0.mk (Kd.R_below (by (with_reducible repeat (first|apply Kd.R_alloc|apply Kd.R_drewN|apply Kd.R_drew));exact HO_840000.out) hb);have n3_:=Aside0.mk (Kd.R_below (by (with_reducible repeat (first|apply Kd.R_alloc|apply Kd.R_drewN|apply Kd.R_drew));exact HO_851000.out) hb);have n4_:=Aside0.mk (Kd.R_below (by (with_reducible repeat (first|apply Kd.R_alloc|apply Kd.R_drewN|apply Kd.R_drew));exact HO_887000.out) hb);have n5_:=Aside0.mk (blk_below (g:=gb814) (o:= .cells #[.slice A0_0 l0_0.length c0_0,.int .i64 a0_1,.string a0_2,.int .i64 a0_3] 61 (0,0)) (by (with_reducible repeat (first|apply bN|apply bd|apply bA));exact BK814.out) hb);have n6_:=Aside0.mk (blk_below (g:=gb832) (o:= .cells #[.slice Ao21 t822.length co21,.int .i64 t825,.string t826,.int .i64 t827] 36 (0,0)) (by (with_reducible repeat (first|apply bN|apply bd|apply bA));exact BK832.out) hb);have n7_:=Aside0.mk (blk_below (g:=gb839) (o:= .cells #[.slice Ao27 t861.length co27,.int .i64 t836,.string t837,.int .i64 t838] 36 (0,0)) (by (with_reducible repeat (first|apply bN|apply bd|apply bA));exact BK839.out) hb);have n8_:=Aside0.mk (blk_below (g:=gb850) (o:= .cells #[.slice Ao33 t865.length co33,.int .i64 t843,.string t844,.int .i64 t845] 36 (0,0)) (by (with_reducible repeat (first|apply bN|apply bd|apply bA));exact BK850.out) hb);have n9_:=Aside0.mk (blk_below (g:=gb886) (o:= .cells #[.slice Ao111 t876.length co111,.int .i64 t879,.string t880,.int .i64 t881] 36 (0,0)) (by (with_reducible repeat (first|apply bN|apply bd|apply bA));exact BK886.out) hb);have n10_:=Aside0.mk (below_step (by repeat (first|(with_reducible first|exact HB.out|apply below_alloc|apply pw_below_drewN|apply below_drew1|refine below_set ?_ GE814.out|refine below_set ?_ GE832.out|refine below_set ?_ GE839.out|refine below_set ?_ GE850.out|refine below_set ?_ GE886.out)|exact HB.out)) hb);clear HO_11;clear HO_833000;clear HO_840000;clear HO_851000;clear HO_887000;clear BK814;clear BK832;clear BK839;clear BK850;clear BK886;clear HB;have HO_11:=n0_;have HO_833000:=n1_;have HO_840000:=n2_;have HO_851000:=n3_;have HO_887000:=n4_;have BK814:=n5_;have BK832:=n6_;have BK839:=n7_;have BK850:=n8_;have BK886:=n9_;have HB:=n10_;clear n0_ n1_ n2_ n3_ n4_ n5_ n6_ n7_ n8_ n9_ n10_;(try clear hb);(try clear hb2);(try clear hk);(try clear hi))|((with_reducible refine gate_callee (f:=74) rfl ?_);refine goesL_ (some 132) rfl rfl Try.func74 (by kernel_rfl) rfl #[.slice Ao100 t867.length co100,.int .i64 t889] rfl (by (try simp only [List.map_toArray,List.map_cons,List.map_nil]);first|done|rfl|(simp only [List.length_drop,List.length_take];rfl)) ?_;(with_reducible refine (laws_heldExtS.calls kj93 _ _ t867 t889 t890 _ ?side1 ?side2 A137.out).mono ?_);(case side1=> repeat (first|exact (Kd.R_reads' HO_11.out).2.2|(with_reducible refine Kd.C_alloc ?_ _)|(with_reducible refine Kd.C_drewN ?_ _)|(with_reducible refine Kd.C_drew ?_)));(case side2=> exact (Kd.R_reads' HO_11.out).2.1);rintro e w' ⟨rfl,⟨nd,rfl⟩⟩;refine ⟨_,rfl,?_⟩))
                                    go_ret
                                    exact ⟨by first|rfl|(simp [errW_none,errW_some] <;> rfl)|(simp [*,errW_none,errW_some] <;> rfl),by repeat (first|(with_reducible first|exact HB.out|apply below_alloc|apply pw_below_drewN|apply below_drew1|refine below_set ?_ GE814.out|refine below_set ?_ GE832.out|refine below_set ?_ GE839.out|refine below_set ?_ GE850.out|refine below_set ?_ GE886.out)|exact HB.out)⟩
                                  · rw [if_neg c139] at H
                                    exact absurd H (by simp)
                      · rw [if_neg c91] at H
                        exact absurd H (by simp)
          · replace c56:=Bool.eq_false_iff.mpr c56
            subst c56
            have H1:(none)=some r:=by rw [if_neg (show ¬ (false=true) by decide)] at H;exact H
            clear H
            have H:=H1
            clear H1
            exact absurd H (by simp)
end Go.Proofs.Ytlogocmojnhpbaa.Print
