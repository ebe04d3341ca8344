-- Packed by a program of this session (slim.py) out of printed texts; not trusted, Lean checks it.
import Derived.Test.YtlogocmojnhpbaaP0
import Derived.Test.YtlogocmojnhpbaaQFnExactTakeOne2
import Derived.Test.YtlogocmojnhpbaaQFnExactTakeOne3
import Derived.Test.YtlogocmojnhpbaaQFnExactTakeOne4
import Derived.Test.YtlogocmojnhpbaaQFnExactTakeOne7
namespace Go.Proofs.Ytlogocmojnhpbaa.Print
open Go.RowKit Go.Proofs.YtlogocmojnhpbaaW.PrintWords Go.Proofs.YtlogocmojnhpbaaW.PrintLast Go.Proofs.YtlogocmojnhpbaaW.PrintMore
attribute [local go_sem] max2_int min2_int max_two min_two max_three min_three max_four min_four
set_option linter.unusedVariables false
set_option linter.unusedSimpArgs false
mutual
def laws_FnExactTakeOne.j0:Nat → Int → Int → Bool → List (S125) → Int → ByteArray → Int → List (S79) → Int → ByteArray → Int → Int → Int → List (S79) → Int → ByteArray → Int → List (S79) → Int → ByteArray → Int → Int → Int → Option (Bool)
  |0,_,_,_,_,_,_,_,_,_,_,_,_,_,_,_,_,_,_,_,_,_,_,_=> none
  |k + 1,x6,x10,x51,x688000,x688001,x688002,x688003,x705000,x705001,x705002,x705003,x706000,x706001,x713000,x713001,x713002,x713003,x723000,x723001,x723002,x723003,x724000,x724001=> if x51=true then (none) else ((laws_toSource.f k x688000 x688001 x688002 x688003).bind fun bt726=> ((laws_eqSource.f k x713000 x713001 x713002 x713003 bt726.1 bt726.2.1 bt726.2.2.1 bt726.2.2.2).bind fun t732=> (if t732=true then ((laws_markSource.f k x713000 x713001 x713002 x713003 1).bind fun bt733=> (if bt733.1 < 0 then (none) else ((laws_eqSource.f k x723000 x723001 x723002 x723003 x705000 x705001 x705002 x705003).bind fun t735=> (if t735=true then ((laws_eqExt.f x724000 x724001 x706000 x706001).bind fun t736=> (if t736=true then (laws_FnExactTakeOne.j1 k x6 (x10 !=x6) x688000 x688001 x688002 x688003 x705000 x705001 x705002 x705003 x706000 x706001 x723000 x723001 x723002 x723003) else (none))) else (none))))) else (none))))
def laws_FnExactTakeOne.j1:Nat → Int → Bool → List (S125) → Int → ByteArray → Int → List (S79) → Int → ByteArray → Int → Int → Int → List (S79) → Int → ByteArray → Int → Option (Bool)
  |0,_,_,_,_,_,_,_,_,_,_,_,_,_,_,_,_=> none
  |k + 1,x6,x78,x688000,x688001,x688002,x688003,x705000,x705001,x705002,x705003,x706000,x706001,x723000,x723001,x723002,x723003=> if x78=true then (none) else ((laws_markSource.f k x723000 x723001 x723002 x723003 1).bind fun bt737=> ((laws_heldSource.f k bt737.2 x723001 x723002 x723003 1).bind fun t739=> (if t739 < 0 then (none) else (if t739=bt737.1 then ((laws_toSource.f k x688000 x688001 x688002 x688003).bind fun bt740=> ((impl_TakeOne.f bt740.1 bt740.2.1 bt740.2.2.1 bt740.2.2.2).bind fun bt746=> ((laws_eqSource.f k bt746.1 bt746.2.1 bt746.2.2.1 bt746.2.2.2.1 x705000 x705001 x705002 x705003).bind fun t757=> (if t757=true then ((laws_eqExt.f bt746.2.2.2.2.1 bt746.2.2.2.2.2.1 x706000 x706001).bind fun t758=> (if t758=true then (laws_FnExactTakeOne.j2 k bt737.1 (bt746.2.2.2.2.2.2 !=x6) bt737.2 x723001 x723002 x723003) else (none))) else (none))))) else (none)))))
def laws_FnExactTakeOne.j2:Nat → Int → Bool → List (S79) → Int → ByteArray → Int → Option (Bool)
  |0,_,_,_,_,_,_=> none
  |k + 1,x12,x111,x723000,x723001,x723002,x723003=> if x111=true then (none) else ((laws_heldSource.f k x723000 x723001 x723002 x723003 1).bind fun t759=> (if t759 < 0 then (none) else (if t759=x12 then (some true) else (none))))
end
def laws_FnExactTakeOne.f (k:Nat) (l0_0:List (S125)) (a0_1:Int) (a0_2:ByteArray) (a0_3:Int):Option (Bool):=(laws_szSource.f l0_0 a0_1 a0_2 a0_3 1048576).bind fun t688=> (if t688 < 0 then (some true) else ((laws_toSource.f k l0_0 a0_1 a0_2 a0_3).bind fun bt689=> ((spec_TakeOne.f k bt689.1 bt689.2.1 bt689.2.2.1 bt689.2.2.2).bind fun bt695=> ((laws_toSource.f k l0_0 a0_1 a0_2 a0_3).bind fun bt706=> ((impl_TakeOne.f bt706.1 bt706.2.1 bt706.2.2.1 bt706.2.2.2).bind fun bt713=> ((laws_eqSource.f k bt713.1 bt713.2.1 bt713.2.2.1 bt713.2.2.2.1 bt695.1 bt695.2.1 bt695.2.2.1 bt695.2.2.2.1).bind fun t724=> (if t724=true then ((laws_eqExt.f bt713.2.2.2.2.1 bt713.2.2.2.2.2.1 bt695.2.2.2.2.1 bt695.2.2.2.2.2.1).bind fun t725=> (if t725=true then (laws_FnExactTakeOne.j0 k bt695.2.2.2.2.2.2 bt713.2.2.2.2.2.2 (bt713.2.2.2.2.2.2 !=bt695.2.2.2.2.2.2) l0_0 a0_1 a0_2 a0_3 bt695.1 bt695.2.1 bt695.2.2.1 bt695.2.2.2.1 bt695.2.2.2.2.1 bt695.2.2.2.2.2.1 bt706.1 bt706.2.1 bt706.2.2.1 bt706.2.2.2 bt713.1 bt713.2.1 bt713.2.2.1 bt713.2.2.2.1 bt713.2.2.2.2.1 bt713.2.2.2.2.2.1) else (none))) else (none))))))))
theorem laws_FnExactTakeOne.mono_l:∀ k,(∀ y0 y1 y2 y3 y4 y5 y6 y7 y8 y9 y10 y11 y12 y13 y14 y15 y16 y17 y18 y19 y20 y21 y22,LeO (laws_FnExactTakeOne.j0 k y0 y1 y2 y3 y4 y5 y6 y7 y8 y9 y10 y11 y12 y13 y14 y15 y16 y17 y18 y19 y20 y21 y22) (laws_FnExactTakeOne.j0 (k + 1) y0 y1 y2 y3 y4 y5 y6 y7 y8 y9 y10 y11 y12 y13 y14 y15 y16 y17 y18 y19 y20 y21 y22)) ∧ (∀ y0 y1 y2 y3 y4 y5 y6 y7 y8 y9 y10 y11 y12 y13 y14 y15,LeO (laws_FnExactTakeOne.j1 k y0 y1 y2 y3 y4 y5 y6 y7 y8 y9 y10 y11 y12 y13 y14 y15) (laws_FnExactTakeOne.j1 (k + 1) y0 y1 y2 y3 y4 y5 y6 y7 y8 y9 y10 y11 y12 y13 y14 y15)) ∧ (∀ y0 y1 y2 y3 y4 y5,LeO (laws_FnExactTakeOne.j2 k y0 y1 y2 y3 y4 y5) (laws_FnExactTakeOne.j2 (k + 1) y0 y1 y2 y3 y4 y5))
  |0=> ⟨fun _ _ _ _ _ _ _ _ _ _ _ _ _ _ _ _ _ _ _ _ _ _ _ r h=> by simp [laws_FnExactTakeOne.j0] at h,fun _ _ _ _ _ _ _ _ _ _ _ _ _ _ _ _ r h=> by simp [laws_FnExactTakeOne.j1] at h,fun _ _ _ _ _ _ r h=> by simp [laws_FnExactTakeOne.j2] at h⟩
  |k + 1=> by
    obtain ⟨ih0,ih1,ih2⟩:=laws_FnExactTakeOne.mono_l k
    refine ⟨?_,?_,?_⟩
    · intro y0 y1 y2 y3 y4 y5 y6 y7 y8 y9 y10 y11 y12 y13 y14 y15 y16 y17 y18 y19 y20 y21 y22
      unfold laws_FnExactTakeOne.j0
      repeat' first
      |(with_reducible exact ih0 _ _ _ _ _ _ _ _ _ _ _ _ _ _ _ _ _ _ _ _ _ _ _)
      |(with_reducible exact ih1 _ _ _ _ _ _ _ _ _ _ _ _ _ _ _ _)
      |(with_reducible exact ih2 _ _ _ _ _ _)
      |(with_reducible exact laws_eqSource.mono _ _ _ _ _ _ _ _ _)
      |(with_reducible exact laws_heldSource.mono _ _ _ _ _ _)
      |(with_reducible exact laws_markSource.mono _ _ _ _ _ _)
      |(with_reducible exact laws_toSource.mono _ _ _ _ _)
      |(with_reducible exact spec_TakeOne.mono _ _ _ _ _)
      |(with_reducible exact LeO.refl _)
      |(with_reducible exact LeO.none _)
      |(with_reducible refine LeO.ite ?_ ?_)
      |(with_reducible refine LeO.bind ?_ (fun _=> ?_))
      |exact ih0 _ _ _ _ _ _ _ _ _ _ _ _ _ _ _ _ _ _ _ _ _ _ _
      |exact ih1 _ _ _ _ _ _ _ _ _ _ _ _ _ _ _ _
      |exact ih2 _ _ _ _ _ _
      |exact laws_eqSource.mono _ _ _ _ _ _ _ _ _
      |exact laws_heldSource.mono _ _ _ _ _ _
      |exact laws_markSource.mono _ _ _ _ _ _
      |exact laws_toSource.mono _ _ _ _ _
      |exact spec_TakeOne.mono _ _ _ _ _
      |exact LeO.none _
      |refine LeO.ite ?_ ?_
      |refine LeO.bind ?_ (fun _=> ?_)
    · intro y0 y1 y2 y3 y4 y5 y6 y7 y8 y9 y10 y11 y12 y13 y14 y15
      unfold laws_FnExactTakeOne.j1
      repeat' first
      |(with_reducible exact ih0 _ _ _ _ _ _ _ _ _ _ _ _ _ _ _ _ _ _ _ _ _ _ _)
      |(with_reducible exact ih1 _ _ _ _ _ _ _ _ _ _ _ _ _ _ _ _)
      |(with_reducible exact ih2 _ _ _ _ _ _)
      |(with_reducible exact laws_eqSource.mono _ _ _ _ _ _ _ _ _)
      |(with_reducible exact laws_heldSource.mono _ _ _ _ _ _)
      |(with_reducible exact laws_markSource.mono _ _ _ _ _ _)
      |(with_reducible exact laws_toSource.mono _ _ _ _ _)
      |(with_reducible exact spec_TakeOne.mono _ _ _ _ _)
      |(with_reducible exact LeO.refl _)
      |(with_reducible exact LeO.none _)
      |(with_reducible refine LeO.ite ?_ ?_)
      |(with_reducible refine LeO.bind ?_ (fun _=> ?_))
      |exact ih0 _ _ _ _ _ _ _ _ _ _ _ _ _ _ _ _ _ _ _ _ _ _ _
      |exact ih1 _ _ _ _ _ _ _ _ _ _ _ _ _ _ _ _
      |exact ih2 _ _ _ _ _ _
      |exact laws_eqSource.mono _ _ _ _ _ _ _ _ _
      |exact laws_heldSource.mono _ _ _ _ _ _
      |exact laws_markSource.mono _ _ _ _ _ _
      |exact laws_toSource.mono _ _ _ _ _
      |exact spec_TakeOne.mono _ _ _ _ _
      |exact LeO.none _
      |refine LeO.ite ?_ ?_
      |refine LeO.bind ?_ (fun _=> ?_)
    · intro y0 y1 y2 y3 y4 y5
      unfold laws_FnExactTakeOne.j2
      repeat' first
      |(with_reducible exact ih0 _ _ _ _ _ _ _ _ _ _ _ _ _ _ _ _ _ _ _ _ _ _ _)
      |(with_reducible exact ih1 _ _ _ _ _ _ _ _ _ _ _ _ _ _ _ _)
      |(with_reducible exact ih2 _ _ _ _ _ _)
      |(with_reducible exact laws_eqSource.mono _ _ _ _ _ _ _ _ _)
      |(with_reducible exact laws_heldSource.mono _ _ _ _ _ _)
      |(with_reducible exact laws_markSource.mono _ _ _ _ _ _)
      |(with_reducible exact laws_toSource.mono _ _ _ _ _)
      |(with_reducible exact spec_TakeOne.mono _ _ _ _ _)
      |(with_reducible exact LeO.refl _)
      |(with_reducible exact LeO.none _)
      |(with_reducible refine LeO.ite ?_ ?_)
      |(with_reducible refine LeO.bind ?_ (fun _=> ?_))
      |exact ih0 _ _ _ _ _ _ _ _ _ _ _ _ _ _ _ _ _ _ _ _ _ _ _
      |exact ih1 _ _ _ _ _ _ _ _ _ _ _ _ _ _ _ _
      |exact ih2 _ _ _ _ _ _
      |exact laws_eqSource.mono _ _ _ _ _ _ _ _ _
      |exact laws_heldSource.mono _ _ _ _ _ _
      |exact laws_markSource.mono _ _ _ _ _ _
      |exact laws_toSource.mono _ _ _ _ _
      |exact spec_TakeOne.mono _ _ _ _ _
      |exact LeO.none _
      |refine LeO.ite ?_ ?_
      |refine LeO.bind ?_ (fun _=> ?_)
theorem laws_FnExactTakeOne.mono:∀ a0 a1 a2 a3 k,LeO (laws_FnExactTakeOne.f k a0 a1 a2 a3) (laws_FnExactTakeOne.f (k + 1) a0 a1 a2 a3):=by
  intro a0 a1 a2 a3 k
  obtain ⟨ih0,ih1,ih2⟩:=laws_FnExactTakeOne.mono_l k
  unfold laws_FnExactTakeOne.f
  repeat' first
      |(with_reducible exact ih0 _ _ _ _ _ _ _ _ _ _ _ _ _ _ _ _ _ _ _ _ _ _ _)
      |(with_reducible exact ih1 _ _ _ _ _ _ _ _ _ _ _ _ _ _ _ _)
      |(with_reducible exact ih2 _ _ _ _ _ _)
      |(with_reducible exact laws_eqSource.mono _ _ _ _ _ _ _ _ _)
      |(with_reducible exact laws_heldSource.mono _ _ _ _ _ _)
      |(with_reducible exact laws_markSource.mono _ _ _ _ _ _)
      |(with_reducible exact laws_toSource.mono _ _ _ _ _)
      |(with_reducible exact spec_TakeOne.mono _ _ _ _ _)
      |(with_reducible exact LeO.refl _)
      |(with_reducible exact LeO.none _)
      |(with_reducible refine LeO.ite ?_ ?_)
      |(with_reducible refine LeO.bind ?_ (fun _=> ?_))
      |exact ih0 _ _ _ _ _ _ _ _ _ _ _ _ _ _ _ _ _ _ _ _ _ _ _
      |exact ih1 _ _ _ _ _ _ _ _ _ _ _ _ _ _ _ _
      |exact ih2 _ _ _ _ _ _
      |exact laws_eqSource.mono _ _ _ _ _ _ _ _ _
      |exact laws_heldSource.mono _ _ _ _ _ _
      |exact laws_markSource.mono _ _ _ _ _ _
      |exact laws_toSource.mono _ _ _ _ _
      |exact spec_TakeOne.mono _ _ _ _ _
      |exact LeO.none _
      |refine LeO.ite ?_ ?_
      |refine LeO.bind ?_ (fun _=> ?_)
set_option maxHeartbeats 8000000 in
set_option maxRecDepth 100000 in
theorem laws_FnExactTakeOne.calls (k:Nat) (A0_0:Option Addr) (c0_0:Nat) (l0_0:List (S125)) (a0_1:Int) (a0_2:ByteArray) (a0_3:Int) (r:Bool) (w:World) (hr0_0:Kd.C k125 w A0_0 l0_0.length l0_0) (hc0_0:l0_0.length ≤ c0_0) (h:laws_FnExactTakeOne.f k l0_0 a0_1 a0_2 a0_3=some r):
    Calls Try.prog 18 #[.agg #[.slice A0_0 l0_0.length c0_0,.int .i64 a0_1,.string a0_2,.int .i64 a0_3]] w fun e w'=> e= .returned (.bool r) ∧ Below w.heap.size w w':=by
  have hu61:=Try.underlying61
  have hu36:=Try.underlying36
  have hu79:=Try.underlying79
  have HR0_0:=Aside0.mk hr0_0
  have HC0_0:=Aside0.mk hc0_0
  clear hr0_0 hc0_0
  have HB:=Aside0.mk (Below.refl w.heap.size w)
  have H:((laws_szSource.f l0_0 a0_1 a0_2 a0_3 1048576).bind fun t688=> (if t688 < 0 then (some true) else ((laws_toSource.f k l0_0 a0_1 a0_2 a0_3).bind fun bt689=> ((spec_TakeOne.f k bt689.1 bt689.2.1 bt689.2.2.1 bt689.2.2.2).bind fun bt695=> ((laws_toSource.f k l0_0 a0_1 a0_2 a0_3).bind fun bt706=> ((impl_TakeOne.f bt706.1 bt706.2.1 bt706.2.2.1 bt706.2.2.2).bind fun bt713=> ((laws_eqSource.f k bt713.1 bt713.2.1 bt713.2.2.1 bt713.2.2.2.1 bt695.1 bt695.2.1 bt695.2.2.1 bt695.2.2.2.1).bind fun t724=> (if t724=true then ((laws_eqExt.f bt713.2.2.2.2.1 bt713.2.2.2.2.2.1 bt695.2.2.2.2.1 bt695.2.2.2.2.2.1).bind fun t725=> (if t725=true then (laws_FnExactTakeOne.j0 k bt695.2.2.2.2.2.2 bt713.2.2.2.2.2.2 (bt713.2.2.2.2.2.2 !=bt695.2.2.2.2.2.2) l0_0 a0_1 a0_2 a0_3 bt695.1 bt695.2.1 bt695.2.2.1 bt695.2.2.2.1 bt695.2.2.2.2.1 bt695.2.2.2.2.2.1 bt706.1 bt706.2.1 bt706.2.2.1 bt706.2.2.2 bt713.1 bt713.2.1 bt713.2.2.1 bt713.2.2.2.1 bt713.2.2.2.2.1 bt713.2.2.2.2.2.1) else (none))) else (none)))))))))=some r:=h
  clear h
  replace H:=Option.bind_eq_some_iff.mp H
  obtain ⟨t688,A20,H⟩:=H
  replace H:(if t688 < 0 then (some true) else ((laws_toSource.f k l0_0 a0_1 a0_2 a0_3).bind fun bt689=> ((spec_TakeOne.f k bt689.1 bt689.2.1 bt689.2.2.1 bt689.2.2.2).bind fun bt695=> ((laws_toSource.f k l0_0 a0_1 a0_2 a0_3).bind fun bt706=> ((impl_TakeOne.f bt706.1 bt706.2.1 bt706.2.2.1 bt706.2.2.2).bind fun bt713=> ((laws_eqSource.f k bt713.1 bt713.2.1 bt713.2.2.1 bt713.2.2.2.1 bt695.1 bt695.2.1 bt695.2.2.1 bt695.2.2.2.1).bind fun t724=> (if t724=true then ((laws_eqExt.f bt713.2.2.2.2.1 bt713.2.2.2.2.2.1 bt695.2.2.2.2.1 bt695.2.2.2.2.2.1).bind fun t725=> (if t725=true then (laws_FnExactTakeOne.j0 k bt695.2.2.2.2.2.2 bt713.2.2.2.2.2.2 (bt713.2.2.2.2.2.2 !=bt695.2.2.2.2.2.2) l0_0 a0_1 a0_2 a0_3 bt695.1 bt695.2.1 bt695.2.2.1 bt695.2.2.2.1 bt695.2.2.2.2.1 bt695.2.2.2.2.2.1 bt706.1 bt706.2.1 bt706.2.2.1 bt706.2.2.2 bt713.1 bt713.2.1 bt713.2.2.1 bt713.2.2.2.1 bt713.2.2.2.2.1 bt713.2.2.2.2.2.1) else (none))) else (none))))))))=some r:=H
  have A2:=Aside0.mk A20
  clear A20
  by_cases c3:t688 < 0
  · rw [if_pos c3] at H
    have c3b0:decide (t688 < 0)=true:=decide_eq_true c3
    clear c3
    obtain rfl:=Option.some.inj H
    go_enter Try.func18,Try.ntmps18
    go_wp2_with (first|((with_reducible refine gate_dst (N:=1) rfl ?_);refine box_event ?hg (N:=1) ?hd (cs:= #[.slice A0_0 l0_0.length c0_0,.int .i64 a0_1,.string a0_2,.int .i64 a0_3]) (t:=61) ?hr ?_;(case hd=> rfl);(case hg=> rfl);(case hr=> first|(go_simp;done)|(go_simp;rfl));intro gb687 hg w4 hbox hb;have n0_:=Aside0.mk (below_step (by repeat (first|(with_reducible first|exact HB.out|apply below_alloc|apply pw_below_drewN|apply below_drew1)|exact HB.out)) hb);have n1_:=Aside0.mk (hbox);have n2_:=Aside0.mk ((by rw [hg];exact (below_size (by repeat (first|(with_reducible first|exact HB.out|apply below_alloc|apply pw_below_drewN|apply below_drew1)|exact HB.out))):w.heap.size ≤ gb687));have n3_:=Aside0.mk ((by rw [hg];exact (below_size (by repeat (first|(with_reducible first|exact HB.out|apply below_alloc|apply pw_below_drewN|apply below_drew1)|exact HB.out))):w.heap.size ≤ gb687));clear HB;have HB:=n0_;have BK687:=n1_;have GW687:=n2_;have GE687:=n3_;clear n0_ n1_ n2_ n3_;clear hb hbox hg;have hcz5_0:w4.cell? ⟨gb687,0,none⟩=some (.slice A0_0 l0_0.length c0_0):=(blk_cell BK687.out 0).trans rfl;have hcz5_1:w4.cell? ⟨gb687,1,none⟩=some (.int .i64 a0_1):=(blk_cell BK687.out 1).trans rfl;have hcz5_2:w4.cell? ⟨gb687,2,none⟩=some (.string a0_2):=(blk_cell BK687.out 2).trans rfl;have hcz5_3:w4.cell? ⟨gb687,3,none⟩=some (.int .i64 a0_3):=(blk_cell BK687.out 3).trans rfl;have hfz5_0:=blk_frozen BK687.out 0;have hfz5_1:=blk_frozen BK687.out 1;have hfz5_2:=blk_frozen BK687.out 2;have hfz5_3:=blk_frozen BK687.out 3)|((with_reducible refine gate_callee (f:=53) rfl ?_);refine goesL_ (some 19) rfl rfl Try.func53 (by kernel_rfl) rfl #[.agg #[.slice A0_0 l0_0.length c0_0,.int .i64 a0_1,.string a0_2,.int .i64 a0_3],.int .i64 1048576] rfl (by (try simp only [List.map_toArray,List.map_cons,List.map_nil]);first|done|rfl|(simp only [List.length_drop,List.length_take];rfl)) ?_;(with_reducible refine (laws_szSource.calls _ _ l0_0 a0_1 a0_2 a0_3 1048576 t688 _ ?side1 ?side2 A2.out).mono ?_);(case side1=> repeat (first|exact (Kd.C_below HR0_0.out HB.out)|(with_reducible refine Kd.C_alloc ?_ _)|(with_reducible refine Kd.C_drewN ?_ _)|(with_reducible refine Kd.C_drew ?_)));(case side2=> exact HC0_0.out);rintro e w6 ⟨rfl,hb⟩;refine ⟨_,rfl,?_⟩;have n0_:=Aside0.mk (blk_below (g:=gb687) (o:= .cells #[.slice A0_0 l0_0.length c0_0,.int .i64 a0_1,.string a0_2,.int .i64 a0_3] 61 (0,0)) (by (with_reducible repeat (first|apply bN|apply bd|apply bA));exact BK687.out) hb);have n1_:=Aside0.mk (below_step (by repeat (first|(with_reducible first|exact HB.out|apply below_alloc|apply pw_below_drewN|apply below_drew1|refine below_set ?_ GE687.out)|exact HB.out)) hb);clear BK687;clear HB;have BK687:=n0_;have HB:=n1_;clear n0_ n1_;(try clear hb);(try clear hb2);(try clear hk);(try clear hi)))
    go_ret
    exact ⟨by first|rfl|(simp [errW_none,errW_some] <;> rfl)|(simp [*,errW_none,errW_some] <;> rfl),by repeat (first|(with_reducible first|exact HB.out|apply below_alloc|apply pw_below_drewN|apply below_drew1|refine below_set ?_ GE687.out)|exact HB.out)⟩
  · rw [if_neg c3] at H
    have c3b0:decide (t688 < 0)=false:=decide_eq_false c3
    clear c3
    replace H:=Option.bind_eq_some_iff.mp H
    obtain ⟨⟨t689,t692,t693,t694⟩,A70,H⟩:=H
    replace H:((spec_TakeOne.f k t689 t692 t693 t694).bind fun bt695=> ((laws_toSource.f k l0_0 a0_1 a0_2 a0_3).bind fun bt706=> ((impl_TakeOne.f bt706.1 bt706.2.1 bt706.2.2.1 bt706.2.2.2).bind fun bt713=> ((laws_eqSource.f k bt713.1 bt713.2.1 bt713.2.2.1 bt713.2.2.2.1 bt695.1 bt695.2.1 bt695.2.2.1 bt695.2.2.2.1).bind fun t724=> (if t724=true then ((laws_eqExt.f bt713.2.2.2.2.1 bt713.2.2.2.2.2.1 bt695.2.2.2.2.1 bt695.2.2.2.2.2.1).bind fun t725=> (if t725=true then (laws_FnExactTakeOne.j0 k bt695.2.2.2.2.2.2 bt713.2.2.2.2.2.2 (bt713.2.2.2.2.2.2 !=bt695.2.2.2.2.2.2) l0_0 a0_1 a0_2 a0_3 bt695.1 bt695.2.1 bt695.2.2.1 bt695.2.2.2.1 bt695.2.2.2.2.1 bt695.2.2.2.2.2.1 bt706.1 bt706.2.1 bt706.2.2.1 bt706.2.2.2 bt713.1 bt713.2.1 bt713.2.2.1 bt713.2.2.2.1 bt713.2.2.2.2.1 bt713.2.2.2.2.2.1) else (none))) else (none))))))=some r:=H
    have A7:=Aside0.mk A70
    clear A70
    replace H:=Option.bind_eq_some_iff.mp H
    obtain ⟨⟨t695,t698,t699,t700,t701,t702,t703⟩,A80,H⟩:=H
    replace H:((laws_toSource.f k l0_0 a0_1 a0_2 a0_3).bind fun bt706=> ((impl_TakeOne.f bt706.1 bt706.2.1 bt706.2.2.1 bt706.2.2.2).bind fun bt713=> ((laws_eqSource.f k bt713.1 bt713.2.1 bt713.2.2.1 bt713.2.2.2.1 t695 t698 t699 t700).bind fun t724=> (if t724=true then ((laws_eqExt.f bt713.2.2.2.2.1 bt713.2.2.2.2.2.1 t701 t702).bind fun t725=> (if t725=true then (laws_FnExactTakeOne.j0 k t703 bt713.2.2.2.2.2.2 (bt713.2.2.2.2.2.2 !=t703) l0_0 a0_1 a0_2 a0_3 t695 t698 t699 t700 t701 t702 bt706.1 bt706.2.1 bt706.2.2.1 bt706.2.2.2 bt713.1 bt713.2.1 bt713.2.2.1 bt713.2.2.2.1 bt713.2.2.2.2.1 bt713.2.2.2.2.2.1) else (none))) else (none)))))=some r:=H
    have A8:=Aside0.mk A80
    clear A80
    replace H:=Option.bind_eq_some_iff.mp H
    obtain ⟨⟨t706,t709,t710,t711⟩,A90,H⟩:=H
    replace H:((impl_TakeOne.f t706 t709 t710 t711).bind fun bt713=> ((laws_eqSource.f k bt713.1 bt713.2.1 bt713.2.2.1 bt713.2.2.2.1 t695 t698 t699 t700).bind fun t724=> (if t724=true then ((laws_eqExt.f bt713.2.2.2.2.1 bt713.2.2.2.2.2.1 t701 t702).bind fun t725=> (if t725=true then (laws_FnExactTakeOne.j0 k t703 bt713.2.2.2.2.2.2 (bt713.2.2.2.2.2.2 !=t703) l0_0 a0_1 a0_2 a0_3 t695 t698 t699 t700 t701 t702 t706 t709 t710 t711 bt713.1 bt713.2.1 bt713.2.2.1 bt713.2.2.2.1 bt713.2.2.2.2.1 bt713.2.2.2.2.2.1) else (none))) else (none))))=some r:=H
    have A9:=Aside0.mk A90
    clear A90
    replace H:=Option.bind_eq_some_iff.mp H
    obtain ⟨⟨t713,t716,t717,t718,t719,t720,t721⟩,A100,H⟩:=H
    replace H:((laws_eqSource.f k t713 t716 t717 t718 t695 t698 t699 t700).bind fun t724=> (if t724=true then ((laws_eqExt.f t719 t720 t701 t702).bind fun t725=> (if t725=true then (laws_FnExactTakeOne.j0 k t703 t721 (t721 !=t703) l0_0 a0_1 a0_2 a0_3 t695 t698 t699 t700 t701 t702 t706 t709 t710 t711 t713 t716 t717 t718 t719 t720) else (none))) else (none)))=some r:=H
    have A10:=Aside0.mk A100
    clear A100
    have HC11:=Aside0.mk H
    clear H
    go_enter Try.func18,Try.ntmps18
    go_upto_region 8 with (first|((with_reducible refine gate_dst (N:=1) rfl ?_);refine box_event ?hg (N:=1) ?hd (cs:= #[.slice A0_0 l0_0.length c0_0,.int .i64 a0_1,.string a0_2,.int .i64 a0_3]) (t:=61) ?hr ?_;(case hd=> rfl);(case hg=> rfl);(case hr=> first|(go_simp;done)|(go_simp;rfl));intro gb687 hg w12 hbox hb;have n0_:=Aside0.mk (below_step (by repeat (first|(with_reducible first|exact HB.out|apply below_alloc|apply pw_below_drewN|apply below_drew1)|exact HB.out)) hb);have n1_:=Aside0.mk (hbox);have n2_:=Aside0.mk ((by rw [hg];exact (below_size (by repeat (first|(with_reducible first|exact HB.out|apply below_alloc|apply pw_below_drewN|apply below_drew1)|exact HB.out))):w.heap.size ≤ gb687));have n3_:=Aside0.mk ((by rw [hg];exact (below_size (by repeat (first|(with_reducible first|exact HB.out|apply below_alloc|apply pw_below_drewN|apply below_drew1)|exact HB.out))):w.heap.size ≤ gb687));clear HB;have HB:=n0_;have BK687:=n1_;have GW687:=n2_;have GE687:=n3_;clear n0_ n1_ n2_ n3_;clear hb hbox hg;have hcz13_0:w12.cell? ⟨gb687,0,none⟩=some (.slice A0_0 l0_0.length c0_0):=(blk_cell BK687.out 0).trans rfl;have hcz13_1:w12.cell? ⟨gb687,1,none⟩=some (.int .i64 a0_1):=(blk_cell BK687.out 1).trans rfl;have hcz13_2:w12.cell? ⟨gb687,2,none⟩=some (.string a0_2):=(blk_cell BK687.out 2).trans rfl;have hcz13_3:w12.cell? ⟨gb687,3,none⟩=some (.int .i64 a0_3):=(blk_cell BK687.out 3).trans rfl;have hfz13_0:=blk_frozen BK687.out 0;have hfz13_1:=blk_frozen BK687.out 1;have hfz13_2:=blk_frozen BK687.out 2;have hfz13_3:=blk_frozen BK687.out 3)|((with_reducible refine gate_callee (f:=53) rfl ?_);refine goesL_ (some 19) rfl rfl Try.func53 (by kernel_rfl) rfl #[.agg #[.slice A0_0 l0_0.length c0_0,.int .i64 a0_1,.string a0_2,.int .i64 a0_3],.int .i64 1048576] rfl (by (try simp only [List.map_toArray,List.map_cons,List.map_nil]);first|done|rfl|(simp only [List.length_drop,List.length_take];rfl)) ?_;(with_reducible refine (laws_szSource.calls _ _ l0_0 a0_1 a0_2 a0_3 1048576 t688 _ ?side1 ?side2 A2.out).mono ?_);(case side1=> repeat (first|exact (Kd.C_below HR0_0.out HB.out)|(with_reducible refine Kd.C_alloc ?_ _)|(with_reducible refine Kd.C_drewN ?_ _)|(with_reducible refine Kd.C_drew ?_)));(case side2=> exact HC0_0.out);rintro e w14 ⟨rfl,hb⟩;refine ⟨_,rfl,?_⟩;have n0_:=Aside0.mk (blk_below (g:=gb687) (o:= .cells #[.slice A0_0 l0_0.length c0_0,.int .i64 a0_1,.string a0_2,.int .i64 a0_3] 61 (0,0)) (by (with_reducible repeat (first|apply bN|apply bd|apply bA));exact BK687.out) hb);have n1_:=Aside0.mk (below_step (by repeat (first|(with_reducible first|exact HB.out|apply below_alloc|apply pw_below_drewN|apply below_drew1|refine below_set ?_ GE687.out)|exact HB.out)) hb);clear BK687;clear HB;have BK687:=n0_;have HB:=n1_;clear n0_ n1_;(try clear hb);(try clear hb2);(try clear hk);(try clear hi);have hcz15_0:w14.cell? ⟨gb687,0,none⟩=some (.slice A0_0 l0_0.length c0_0):=(blk_cell BK687.out 0).trans rfl;have hcz15_1:w14.cell? ⟨gb687,1,none⟩=some (.int .i64 a0_1):=(blk_cell BK687.out 1).trans rfl;have hcz15_2:w14.cell? ⟨gb687,2,none⟩=some (.string a0_2):=(blk_cell BK687.out 2).trans rfl;have hcz15_3:w14.cell? ⟨gb687,3,none⟩=some (.int .i64 a0_3):=(blk_cell BK687.out 3).trans rfl;have hfz15_0:=blk_frozen BK687.out 0;have hfz15_1:=blk_frozen BK687.out 1;have hfz15_2:=blk_frozen BK687.out 2;have hfz15_3:=blk_frozen BK687.out 3)|((with_reducible refine gate_callee (f:=55) rfl ?_);refine goesL_ (some 24) rfl rfl Try.func55 (by kernel_rfl) rfl #[.agg #[.slice A0_0 l0_0.length c0_0,.int .i64 a0_1,.string a0_2,.int .i64 a0_3]] rfl (by (try simp only [List.map_toArray,List.map_cons,List.map_nil]);first|done|rfl|(simp only [List.length_drop,List.length_take];rfl)) ?_;(with_reducible refine (laws_toSource.calls k _ _ l0_0 a0_1 a0_2 a0_3 t689 t692 t693 t694 _ ?side1 ?side2 A7.out).mono ?_);(case side1=> repeat (first|exact (Kd.C_below HR0_0.out HB.out)|(with_reducible refine Kd.C_alloc ?_ _)|(with_reducible refine Kd.C_drewN ?_ _)|(with_reducible refine Kd.C_drew ?_)));(case side2=> exact HC0_0.out);rintro e w16 ⟨v690,rfl,ho0,hb⟩;refine ⟨_,rfl,?_⟩;have n0_:=Aside0.mk (Kd.R_lower ho0 (below_size (by repeat (first|(with_reducible first|exact HB.out|apply below_alloc|apply pw_below_drewN|apply below_drew1|refine below_set ?_ GE687.out)|exact HB.out))));have n1_:=Aside0.mk (blk_below (g:=gb687) (o:= .cells #[.slice A0_0 l0_0.length c0_0,.int .i64 a0_1,.string a0_2,.int .i64 a0_3] 61 (0,0)) (by (with_reducible repeat (first|apply bN|apply bd|apply bA));exact BK687.out) hb);have n2_:=Aside0.mk (below_step (by repeat (first|(with_reducible first|exact HB.out|apply below_alloc|apply pw_below_drewN|apply below_drew1|refine below_set ?_ GE687.out)|exact HB.out)) hb);clear BK687;clear HB;have HO691:=n0_;have BK687:=n1_;have HB:=n2_;clear n0_ n1_ n2_;(try clear hb);(try clear hb2);(try clear hk);(try clear hi);(try clear ho0);obtain ⟨Ao17,co17,eo17⟩:=Kd.R_slice HO691.out;subst eo17)|((with_reducible refine gate_callee (f:=69) rfl ?_);refine goesL_ (some 25) rfl rfl Try.func69 (by kernel_rfl) rfl #[.agg #[.slice Ao17 t689.length co17,.int .i64 t692,.string t693,.int .i64 t694]] rfl (by (try simp only [List.map_toArray,List.map_cons,List.map_nil]);first|done|rfl|(simp only [List.length_drop,List.length_take];rfl)) ?_;(with_reducible refine (spec_TakeOne.calls k (fun k_=> some k_=(.slice Ao17 t689.length co17:Value).ownBlock) (.slice Ao17 t689.length co17) t689 t692 t693 t694 t695 t698 t699 t700 t701 t702 t703 w _ ?side1 ?side2 A8.out).mono ?_);(case side1=> repeat (first|(with_reducible first|exact HB.out|apply below_alloc|apply pw_below_drewN|apply below_drew1|refine below_set ?_ GE687.out)|exact HB.out));(case side2=> exact Kd.R_tight rfl HO691.out);rintro e w18 ⟨v696,rfl,ho0,hb,hkp⟩;refine ⟨_,rfl,?_⟩;have n0_:=Aside0.mk (blk_kept (by (with_reducible repeat (first|apply bN|apply bd|apply bA));exact BK687.out) hkp (fun hs_=> (fun e_=> (Kd.R_ne HO691.out BK687.out (by decide)) e_) hs_));have n1_:=Aside0.mk (Kd.R_mono (ok':=fun k_=> True) ho0 (fun k_ hk_=> trivial));have n2_:=Aside0.mk (hb);clear BK687;clear HB;clear HO691;have BK687:=n0_;have HO697:=n1_;have HB:=n2_;clear n0_ n1_ n2_;(try clear hb);(try clear hkp);(try clear ho0))|((with_reducible refine gate_dst (N:=4) rfl ?_);refine box_event ?hg (N:=4) ?hd (cs:= #[.slice none 0 0,.int .i64 0,.string (⟨#[]⟩:ByteArray),.int .i64 0]) (t:=36) ?hr ?_;(case hd=> rfl);(case hg=> rfl);(case hr=> first|(go_simp;done)|(go_simp;rfl));intro gb704 hg w19 hbox hb;have n0_:=Aside0.mk (Kd.R_below (by (with_reducible repeat (first|apply Kd.R_alloc|apply Kd.R_drewN|apply Kd.R_drew));exact HO697.out) hb);have n1_:=Aside0.mk (blk_below (g:=gb687) (o:= .cells #[.slice A0_0 l0_0.length c0_0,.int .i64 a0_1,.string a0_2,.int .i64 a0_3] 61 (0,0)) (by (with_reducible repeat (first|apply bN|apply bd|apply bA));exact BK687.out) hb);have n2_:=Aside0.mk (below_step (by repeat (first|(with_reducible first|exact HB.out|apply below_alloc|apply pw_below_drewN|apply below_drew1|refine below_set ?_ GE687.out)|exact HB.out)) hb);have n3_:=Aside0.mk (hbox);have n4_:=Aside0.mk ((by rw [hg];exact (below_size (by repeat (first|(with_reducible first|exact HB.out|apply below_alloc|apply pw_below_drewN|apply below_drew1|refine below_set ?_ GE687.out)|exact HB.out))):w.heap.size ≤ gb704));have n5_:=Aside0.mk ((by rw [hg];exact (below_size (by repeat (first|(with_reducible first|exact HB.out|apply below_alloc|apply pw_below_drewN|apply below_drew1|refine below_set ?_ GE687.out)|exact HB.out))):w.heap.size ≤ gb704));have n6_:=Aside0.mk ((by rw [hg];exact Nat.ne_of_lt (blk_lt (g:=gb687) (o:= .cells #[.slice A0_0 l0_0.length c0_0,.int .i64 a0_1,.string a0_2,.int .i64 a0_3] 61 (0,0)) (by (with_reducible repeat (first|apply bN|apply bd|apply bA));exact BK687.out)):gb687 ≠ gb704));have n7_:=Aside0.mk ((by rw [hg];exact Nat.ne_of_gt (blk_lt (g:=gb687) (o:= .cells #[.slice A0_0 l0_0.length c0_0,.int .i64 a0_1,.string a0_2,.int .i64 a0_3] 61 (0,0)) (by (with_reducible repeat (first|apply bN|apply bd|apply bA));exact BK687.out)):gb704 ≠ gb687));clear HO697;clear BK687;clear HB;have HO697:=n0_;have BK687:=n1_;have HB:=n2_;have BK704:=n3_;have GW704:=n4_;have GE704:=n5_;have NB687_704:=n6_;have NB704_687:=n7_;clear n0_ n1_ n2_ n3_ n4_ n5_ n6_ n7_;clear hb hbox hg)|((with_reducible refine gate_dst (N:=5) rfl ?_);refine box_event ?hg (N:=5) ?hd (cs:= #[.int .i64 0,.int .i64 0]) (t:=79) ?hr ?_;(case hd=> rfl);(case hg=> rfl);(case hr=> first|(go_simp;done)|(go_simp;rfl));intro gb705 hg w20 hbox hb;have n0_:=Aside0.mk (Kd.R_below (Kd.R_elderB (by (with_reducible repeat (first|apply Kd.R_alloc|apply Kd.R_drewN|apply Kd.R_drew));exact HO697.out) gb705 (Nat.le_of_eq hg.symm)) hb);have n1_:=Aside0.mk (blk_below (g:=gb687) (o:= .cells #[.slice A0_0 l0_0.length c0_0,.int .i64 a0_1,.string a0_2,.int .i64 a0_3] 61 (0,0)) (by (with_reducible repeat (first|apply bN|apply bd|apply bA));exact BK687.out) hb);have n2_:=Aside0.mk (blk_below (g:=gb704) (o:= .cells #[.slice none 0 0,.int .i64 0,.string (⟨#[]⟩:ByteArray),.int .i64 0] 36 (0,0)) (by (with_reducible repeat (first|apply bN|apply bd|apply bA));exact BK704.out) hb);have n3_:=Aside0.mk (below_step (by repeat (first|(with_reducible first|exact HB.out|apply below_alloc|apply pw_below_drewN|apply below_drew1|refine below_set ?_ GE687.out|refine below_set ?_ GE704.out)|exact HB.out)) hb);have n4_:=Aside0.mk (hbox);have n5_:=Aside0.mk ((by rw [hg];exact (below_size (by repeat (first|(with_reducible first|exact HB.out|apply below_alloc|apply pw_below_drewN|apply below_drew1|refine below_set ?_ GE687.out|refine below_set ?_ GE704.out)|exact HB.out))):w.heap.size ≤ gb705));have n6_:=Aside0.mk ((by rw [hg];exact (below_size (by repeat (first|(with_reducible first|exact HB.out|apply below_alloc|apply pw_below_drewN|apply below_drew1|refine below_set ?_ GE687.out|refine below_set ?_ GE704.out)|exact HB.out))):w.heap.size ≤ gb705));have n7_:=Aside0.mk ((by rw [hg];exact Nat.ne_of_lt (blk_lt (g:=gb687) (o:= .cells #[.slice A0_0 l0_0.length c0_0,.int .i64 a0_1,.string a0_2,.int .i64 a0_3] 61 (0,0)) (by (with_reducible repeat (first|apply bN|apply bd|apply bA));exact BK687.out)):gb687 ≠ gb705));have n8_:=Aside0.mk ((by rw [hg];exact Nat.ne_of_gt (blk_lt (g:=gb687) (o:= .cells #[.slice A0_0 l0_0.length c0_0,.int .i64 a0_1,.string a0_2,.int .i64 a0_3] 61 (0,0)) (by (with_reducible repeat (first|apply bN|apply bd|apply bA));exact BK687.out)):gb705 ≠ gb687));have n9_:=Aside0.mk ((by rw [hg];exact Nat.ne_of_lt (blk_lt (g:=gb704) (o:= .cells #[.slice none 0 0,.int .i64 0,.string (⟨#[]⟩:ByteArray),.int .i64 0] 36 (0,0)) (by (with_reducible repeat (first|apply bN|apply bd|apply bA));exact BK704.out)):gb704 ≠ gb705));have n10_:=Aside0.mk ((by rw [hg];exact Nat.ne_of_gt (blk_lt (g:=gb704) (o:= .cells #[.slice none 0 0,.int .i64 0,.string (⟨#[]⟩:ByteArray),.int .i64 0] 36 (0,0)) (by (with_reducible repeat (first|apply bN|apply bd|apply bA));exact BK704.out)):gb705 ≠ gb704));clear HO697;clear BK687;clear BK704;clear HB;have HO697:=n0_;have BK687:=n1_;have BK704:=n2_;have HB:=n3_;have BK705:=n4_;have GW705:=n5_;have GE705:=n6_;have NB687_705:=n7_;have NB705_687:=n8_;have NB704_705:=n9_;have NB705_704:=n10_;clear n0_ n1_ n2_ n3_ n4_ n5_ n6_ n7_ n8_ n9_ n10_;clear hb hbox hg;obtain ⟨Ao21,co21,eo21⟩:=Kd.R_slice HO697.out;subst eo21;have hnb22:=NB704_687.out;have hnc22:=NB687_704.out;have hnb23:=NB704_705.out;have hnc23:=NB705_704.out;have hcz24_0:w20.cell? ⟨gb704,0,none⟩=some (.slice none 0 0):=(blk_cell BK704.out 0).trans rfl;have hcz24_1:w20.cell? ⟨gb704,1,none⟩=some (.int .i64 0):=(blk_cell BK704.out 1).trans rfl;have hcz24_2:w20.cell? ⟨gb704,2,none⟩=some (.string (⟨#[]⟩:ByteArray)):=(blk_cell BK704.out 2).trans rfl;have hcz24_3:w20.cell? ⟨gb704,3,none⟩=some (.int .i64 0):=(blk_cell BK704.out 3).trans rfl;have hfz24_0:=blk_frozen BK704.out 0;have hfz24_1:=blk_frozen BK704.out 1;have hfz24_2:=blk_frozen BK704.out 2;have hfz24_3:=blk_frozen BK704.out 3;have hnb25:=NB705_687.out;have hnc25:=NB687_705.out;have hcz26_0:w20.cell? ⟨gb705,0,none⟩=some (.int .i64 0):=(blk_cell BK705.out 0).trans rfl;have hcz26_1:w20.cell? ⟨gb705,1,none⟩=some (.int .i64 0):=(blk_cell BK705.out 1).trans rfl;have hfz26_0:=blk_frozen BK705.out 0;have hfz26_1:=blk_frozen BK705.out 1;have hcz27_0:w20.cell? ⟨gb687,0,none⟩=some (.slice A0_0 l0_0.length c0_0):=(blk_cell BK687.out 0).trans rfl;have hcz27_1:w20.cell? ⟨gb687,1,none⟩=some (.int .i64 a0_1):=(blk_cell BK687.out 1).trans rfl;have hcz27_2:w20.cell? ⟨gb687,2,none⟩=some (.string a0_2):=(blk_cell BK687.out 2).trans rfl;have hcz27_3:w20.cell? ⟨gb687,3,none⟩=some (.int .i64 a0_3):=(blk_cell BK687.out 3).trans rfl;have hfz27_0:=blk_frozen BK687.out 0;have hfz27_1:=blk_frozen BK687.out 1;have hfz27_2:=blk_frozen BK687.out 2;have hfz27_3:=blk_frozen BK687.out 3)|((with_reducible refine gate_callee (f:=55) rfl ?_);refine goesL_ (some 30) rfl rfl Try.func55 (by kernel_rfl) rfl #[.agg #[.slice A0_0 l0_0.length c0_0,.int .i64 a0_1,.string a0_2,.int .i64 a0_3]] rfl (by (try simp only [List.map_toArray,List.map_cons,List.map_nil]);first|done|rfl|(simp only [List.length_drop,List.length_take];rfl)) ?_;(with_reducible refine (laws_toSource.calls k _ _ l0_0 a0_1 a0_2 a0_3 t706 t709 t710 t711 _ ?side1 ?side2 A9.out).mono ?_);(case side1=> exact Kd.C_below HR0_0.out (by repeat (first|(with_reducible first|exact HB.out|apply below_alloc|apply pw_below_drewN|apply below_drew1|refine below_set ?_ GE687.out|refine below_set ?_ GE704.out|refine below_set ?_ GE705.out)|exact HB.out)));(case side2=> exact HC0_0.out);rintro e w28 ⟨v707,rfl,ho0,hb⟩;refine ⟨_,rfl,?_⟩;have n0_:=Aside0.mk (Kd.R_elder' (by (with_reducible repeat (first|apply Kd.R_alloc|apply Kd.R_drewN|apply Kd.R_drew));exact (Kd.R_mono (Kd.R_mono (Kd.R_far (p:=⟨gb705,1,none⟩) (Kd.R_far (p:=⟨gb705,0,none⟩) (Kd.R_far (p:=⟨gb704,3,none⟩) (Kd.R_far (p:=⟨gb704,2,none⟩) (Kd.R_far (p:=⟨gb704,1,none⟩) (Kd.R_far (p:=⟨gb704,0,none⟩) (Kd.R_mono (Kd.R_types HO697.out BK704.out (by decide)) (fun k_ hk=> (⟨hk,hk.1.2⟩:_ ∧ k_ ≠ gb705))) (fun _ hk=> hk.1.2) (.slice Ao21 t695.length co21)) (fun _ hk=> hk.1.2) (.int .i64 t698)) (fun _ hk=> hk.1.2) (.string t699)) (fun _ hk=> hk.1.2) (.int .i64 t700)) (fun _ hk=> hk.2) (.int .i64 t701)) (fun _ hk=> hk.2) (.int .i64 t702)) (fun _ h_=> h_.1)) (fun _ h_=> h_.1))) (Kd.R_base ho0) hb);have n1_:=Aside0.mk (Kd.R_lower (Kd.R_newB (Kd.R_new' ho0 (Kd.R_lt (by (with_reducible repeat (first|apply Kd.R_alloc|apply Kd.R_drewN|apply Kd.R_drew));exact (Kd.R_mono (Kd.R_mono (Kd.R_far (p:=⟨gb705,1,none⟩) (Kd.R_far (p:=⟨gb705,0,none⟩) (Kd.R_far (p:=⟨gb704,3,none⟩) (Kd.R_far (p:=⟨gb704,2,none⟩) (Kd.R_far (p:=⟨gb704,1,none⟩) (Kd.R_far (p:=⟨gb704,0,none⟩) (Kd.R_mono (Kd.R_types HO697.out BK704.out (by decide)) (fun k_ hk=> (⟨hk,hk.1.2⟩:_ ∧ k_ ≠ gb705))) (fun _ hk=> hk.1.2) (.slice Ao21 t695.length co21)) (fun _ hk=> hk.1.2) (.int .i64 t698)) (fun _ hk=> hk.1.2) (.string t699)) (fun _ hk=> hk.1.2) (.int .i64 t700)) (fun _ hk=> hk.2) (.int .i64 t701)) (fun _ hk=> hk.2) (.int .i64 t702)) (fun _ h_=> h_.1)) (fun _ h_=> h_.1))))) (g:=gb705) (o:= .cells #[.int .i64 t701,.int .i64 t702] 79 (0,0)) (by (with_reducible repeat (first|apply bN|apply bd|apply bA));refine blk_put (cs:= #[.int .i64 t701,.int .i64 0]) ?_ 1 _ rfl;(with_reducible repeat (first|apply bN|apply bd|apply bA));refine blk_put (cs:= #[.int .i64 0,.int .i64 0]) ?_ 0 _ rfl;(with_reducible repeat (first|apply bN|apply bd|apply bA));refine blk_far ?_ NB705_704.out _;(with_reducible repeat (first|apply bN|apply bd|apply bA));refine blk_far ?_ NB705_704.out _;(with_reducible repeat (first|apply bN|apply bd|apply bA));refine blk_far ?_ NB705_704.out _;(with_reducible repeat (first|apply bN|apply bd|apply bA));refine blk_far ?_ NB705_704.out _;(with_reducible repeat (first|apply bN|apply bd|apply bA));exact BK705.out)) (below_size (by repeat (first|(with_reducible first|exact HB.out|apply below_alloc|apply pw_below_drewN|apply below_drew1|refine below_set ?_ GE687.out|refine below_set ?_ GE704.out|refine below_set ?_ GE705.out)|exact HB.out))));have n2_:=Aside0.mk (blk_below (g:=gb687) (o:= .cells #[.slice A0_0 l0_0.length c0_0,.int .i64 a0_1,.string a0_2,.int .i64 a0_3] 61 (0,0)) (by (with_reducible repeat (first|apply bN|apply bd|apply bA));refine blk_far ?_ NB687_705.out _;(with_reducible repeat (first|apply bN|apply bd|apply bA));refine blk_far ?_ NB687_705.out _;(with_reducible repeat (first|apply bN|apply bd|apply bA));refine blk_far ?_ NB687_704.out _;(with_reducible repeat (first|apply bN|apply bd|apply bA));refine blk_far ?_ NB687_704.out _;(with_reducible repeat (first|apply bN|apply bd|apply bA));refine blk_far ?_ NB687_704.out _;(with_reducible repeat (first|apply bN|apply bd|apply bA));refine blk_far ?_ NB687_704.out _;(with_reducible repeat (first|apply bN|apply bd|apply bA));exact BK687.out) hb);have n3_:=Aside0.mk (blk_below (g:=gb704) (o:= .cells #[.slice Ao21 t695.length co21,.int .i64 t698,.string t699,.int .i64 t700] 36 (0,0)) (by (with_reducible repeat (first|apply bN|apply bd|apply bA));refine blk_far ?_ NB704_705.out _;(with_reducible repeat (first|apply bN|apply bd|apply bA));refine blk_far ?_ NB704_705.out _;(with_reducible repeat (first|apply bN|apply bd|apply bA));refine blk_put (cs:= #[.slice Ao21 t695.length co21,.int .i64 t698,.string t699,.int .i64 0]) ?_ 3 _ rfl;(with_reducible repeat (first|apply bN|apply bd|apply bA));refine blk_put (cs:= #[.slice Ao21 t695.length co21,.int .i64 t698,.string (⟨#[]⟩:ByteArray),.int .i64 0]) ?_ 2 _ rfl;(with_reducible repeat (first|apply bN|apply bd|apply bA));refine blk_put (cs:= #[.slice Ao21 t695.length co21,.int .i64 0,.string (⟨#[]⟩:ByteArray),.int .i64 0]) ?_ 1 _ rfl;(with_reducible repeat (first|apply bN|apply bd|apply bA));refine blk_put (cs:= #[.slice none 0 0,.int .i64 0,.string (⟨#[]⟩:ByteArray),.int .i64 0]) ?_ 0 _ rfl;(with_reducible repeat (first|apply bN|apply bd|apply bA));exact BK704.out) hb);have n4_:=Aside0.mk (blk_below (g:=gb705) (o:= .cells #[.int .i64 t701,.int .i64 t702] 79 (0,0)) (by (with_reducible repeat (first|apply bN|apply bd|apply bA));refine blk_put (cs:= #[.int .i64 t701,.int .i64 0]) ?_ 1 _ rfl;(with_reducible repeat (first|apply bN|apply bd|apply bA));refine blk_put (cs:= #[.int .i64 0,.int .i64 0]) ?_ 0 _ rfl;(with_reducible repeat (first|apply bN|apply bd|apply bA));refine blk_far ?_ NB705_704.out _;(with_reducible repeat (first|apply bN|apply bd|apply bA));refine blk_far ?_ NB705_704.out _;(with_reducible repeat (first|apply bN|apply bd|apply bA));refine blk_far ?_ NB705_704.out _;(with_reducible repeat (first|apply bN|apply bd|apply bA));refine blk_far ?_ NB705_704.out _;(with_reducible repeat (first|apply bN|apply bd|apply bA));exact BK705.out) hb);have n5_:=Aside0.mk (below_step (by repeat (first|(with_reducible first|exact HB.out|apply below_alloc|apply pw_below_drewN|apply below_drew1|refine below_set ?_ GE687.out|refine below_set ?_ GE704.out|refine below_set ?_ GE705.out)|exact HB.out)) hb);clear HO697;clear BK687;clear BK704;clear BK705;clear HB;have HO697:=n0_;have HO708:=n1_;have BK687:=n2_;have BK704:=n3_;have BK705:=n4_;have HB:=n5_;clear n0_ n1_ n2_ n3_ n4_ n5_;(try clear hb);(try clear hb2);(try clear hk);(try clear hi);(try clear ho0))|((with_reducible refine gate_dst (N:=7) rfl ?_);refine box_event ?hg (N:=7) ?hd (cs:= #[.slice none 0 0,.int .i64 0,.string (⟨#[]⟩:ByteArray),.int .i64 0]) (t:=36) ?hr ?_;(case hd=> rfl);(case hg=> rfl);(case hr=> first|(go_simp;done)|(go_simp;rfl));intro gb712 hg w29 hbox hb;have n0_:=Aside0.mk (Kd.R_below (by (with_reducible repeat (first|apply Kd.R_alloc|apply Kd.R_drewN|apply Kd.R_drew));exact HO697.out) hb);have n1_:=Aside0.mk (Kd.R_below (by (with_reducible repeat (first|apply Kd.R_alloc|apply Kd.R_drewN|apply Kd.R_drew));exact HO708.out) hb);have n2_:=Aside0.mk (blk_below (g:=gb687) (o:= .cells #[.slice A0_0 l0_0.length c0_0,.int .i64 a0_1,.string a0_2,.int .i64 a0_3] 61 (0,0)) (by (with_reducible repeat (first|apply bN|apply bd|apply bA));exact BK687.out) hb);have n3_:=Aside0.mk (blk_below (g:=gb704) (o:= .cells #[.slice Ao21 t695.length co21,.int .i64 t698,.string t699,.int .i64 t700] 36 (0,0)) (by (with_reducible repeat (first|apply bN|apply bd|apply bA));exact BK704.out) hb);have n4_:=Aside0.mk (blk_below (g:=gb705) (o:= .cells #[.int .i64 t701,.int .i64 t702] 79 (0,0)) (by (with_reducible repeat (first|apply bN|apply bd|apply bA));exact BK705.out) hb);have n5_:=Aside0.mk (below_step (by repeat (first|(with_reducible first|exact HB.out|apply below_alloc|apply pw_below_drewN|apply below_drew1|refine below_set ?_ GE687.out|refine below_set ?_ GE704.out|refine below_set ?_ GE705.out)|exact HB.out)) hb);have n6_:=Aside0.mk (hbox);have n7_:=Aside0.mk ((by rw [hg];exact (below_size (by repeat (first|(with_reducible first|exact HB.out|apply below_alloc|apply pw_below_drewN|apply below_drew1|refine below_set ?_ GE687.out|refine below_set ?_ GE704.out|refine below_set ?_ GE705.out)|exact HB.out))):w.heap.size ≤ gb712));have n8_:=Aside0.mk ((by rw [hg];exact (below_size (by repeat (first|(with_reducible first|exact HB.out|apply below_alloc|apply pw_below_drewN|apply below_drew1|refine below_set ?_ GE687.out|refine below_set ?_ GE704.out|refine below_set ?_ GE705.out)|exact HB.out))):w.heap.size ≤ gb712));have n9_:=Aside0.mk ((by rw [hg];exact Nat.ne_of_lt (blk_lt (g:=gb687) (o:= .cells #[.slice A0_0 l0_0.length c0_0,.int .i64 a0_1,.string a0_2,.int .i64 a0_3] 61 (0,0)) (by (with_reducible repeat (first|apply bN|apply bd|apply bA));exact BK687.out)):gb687 ≠ gb712));have n10_:=Aside0.mk ((by rw [hg];exact Nat.ne_of_gt (blk_lt (g:=gb687) (o:= .cells #[.slice A0_0 l0_0.length c0_0,.int .i64 a0_1,.string a0_2,.int .i64 a0_3] 61 (0,0)) (by (with_reducible repeat (first|apply bN|apply bd|apply bA));exact BK687.out)):gb712 ≠ gb687));have n11_:=Aside0.mk ((by rw [hg];exact Nat.ne_of_lt (blk_lt (g:=gb704) (o:= .cells #[.slice Ao21 t695.length co21,.int .i64 t698,.string t699,.int .i64 t700] 36 (0,0)) (by (with_reducible repeat (first|apply bN|apply bd|apply bA));exact BK704.out)):gb704 ≠ gb712));have n12_:=Aside0.mk ((by rw [hg];exact Nat.ne_of_gt (blk_lt (g:=gb704) (o:= .cells #[.slice Ao21 t695.length co21,.int .i64 t698,.string t699,.int .i64 t700] 36 (0,0)) (by (with_reducible repeat (first|apply bN|apply bd|apply bA));exact BK704.out)):gb712 ≠ gb704));have n13_:=Aside0.mk ((by rw [hg];exact Nat.ne_of_lt (blk_lt (g:=gb705) (o:= .cells #[.int .i64 t701,.int .i64 t702] 79 (0,0)) (by (with_reducible repeat (first|apply bN|apply bd|apply bA));exact BK705.out)):gb705 ≠ gb712));have n14_:=Aside0.mk ((by rw [hg];exact Nat.ne_of_gt (blk_lt (g:=gb705) (o:= .cells #[.int .i64 t701,.int .i64 t702] 79 (0,0)) (by (with_reducible repeat (first|apply bN|apply bd|apply bA));exact BK705.out)):gb712 ≠ gb705));clear HO697;clear HO708;clear BK687;clear BK704;clear BK705;clear HB;have HO697:=n0_;have HO708:=n1_;have BK687:=n2_;have BK704:=n3_;have BK705:=n4_;have HB:=n5_;have BK712:=n6_;have GW712:=n7_;have GE712:=n8_;have NB687_712:=n9_;have NB712_687:=n10_;have NB704_712:=n11_;have NB712_704:=n12_;have NB705_712:=n13_;have NB712_705:=n14_;clear n0_ n1_ n2_ n3_ n4_ n5_ n6_ n7_ n8_ n9_ n10_ n11_ n12_ n13_ n14_;clear hb hbox hg;obtain ⟨Ao30,co30,eo30⟩:=Kd.R_slice HO708.out;subst eo30;have hnb31:=NB712_687.out;have hnc31:=NB687_712.out;have hnb32:=NB712_704.out;have hnc32:=NB704_712.out;have hnb33:=NB712_705.out;have hnc33:=NB705_712.out;have hcz34_0:w29.cell? ⟨gb712,0,none⟩=some (.slice none 0 0):=(blk_cell BK712.out 0).trans rfl;have hcz34_1:w29.cell? ⟨gb712,1,none⟩=some (.int .i64 0):=(blk_cell BK712.out 1).trans rfl;have hcz34_2:w29.cell? ⟨gb712,2,none⟩=some (.string (⟨#[]⟩:ByteArray)):=(blk_cell BK712.out 2).trans rfl;have hcz34_3:w29.cell? ⟨gb712,3,none⟩=some (.int .i64 0):=(blk_cell BK712.out 3).trans rfl;have hfz34_0:=blk_frozen BK712.out 0;have hfz34_1:=blk_frozen BK712.out 1;have hfz34_2:=blk_frozen BK712.out 2;have hfz34_3:=blk_frozen BK712.out 3)|((with_reducible refine gate_callee (f:=70) rfl ?_);refine goesL_ (some 33) rfl rfl Try.func70 (by kernel_rfl) rfl #[.agg #[.slice Ao30 t706.length co30,.int .i64 t709,.string t710,.int .i64 t711]] rfl (by (try simp only [List.map_toArray,List.map_cons,List.map_nil]);first|done|rfl|(simp only [List.length_drop,List.length_take];rfl)) ?_;(with_reducible refine (impl_TakeOne.calls _ _ t706 t709 t710 t711 t713 t716 t717 t718 t719 t720 t721 _ ?side1 ?side2 A10.out).mono ?_);(case side1=> refine (Kd.R_reads' (e:=79) (base:=w.heap.size) (ok:=fun k_=> ((True ∧ some k_ ≠ (.slice Ao21 t695.length co21:Value).ownBlock) ∧ k_ ≠ gb705)) (n:=t706.length) (c:=co30) ?_).2.2;exact (by (with_reducible repeat (first|apply Kd.R_alloc|apply Kd.R_drewN|apply Kd.R_drew));exact (Kd.R_mono (Kd.R_far (p:=⟨gb712,3,none⟩) (Kd.R_far (p:=⟨gb712,2,none⟩) (Kd.R_far (p:=⟨gb712,1,none⟩) (Kd.R_far (p:=⟨gb712,0,none⟩) (Kd.R_types HO708.out BK712.out (by decide)) (fun _ hk=> hk.2) (.slice Ao30 t706.length co30)) (fun _ hk=> hk.2) (.int .i64 t709)) (fun _ hk=> hk.2) (.string t710)) (fun _ hk=> hk.2) (.int .i64 t711)) (fun _ h_=> h_.1))));(case side2=> exact (Kd.R_reads' HO708.out).2.1);rintro e w35 ⟨v714,rfl,ho0,hb⟩;refine ⟨_,rfl,?_⟩;have n0_:=Aside0.mk (Kd.R_elder' (by (with_reducible repeat (first|apply Kd.R_alloc|apply Kd.R_drewN|apply Kd.R_drew));exact (Kd.R_mono (Kd.R_far (p:=⟨gb712,3,none⟩) (Kd.R_far (p:=⟨gb712,2,none⟩) (Kd.R_far (p:=⟨gb712,1,none⟩) (Kd.R_far (p:=⟨gb712,0,none⟩) (Kd.R_types HO697.out BK712.out (by decide)) (fun _ hk=> hk.2) (.slice Ao30 t706.length co30)) (fun _ hk=> hk.2) (.int .i64 t709)) (fun _ hk=> hk.2) (.string t710)) (fun _ hk=> hk.2) (.int .i64 t711)) (fun _ h_=> h_.1))) (Kd.R_base ho0) hb);have n1_:=Aside0.mk (Kd.R_elder' (by (with_reducible repeat (first|apply Kd.R_alloc|apply Kd.R_drewN|apply Kd.R_drew));exact (Kd.R_mono (Kd.R_far (p:=⟨gb712,3,none⟩) (Kd.R_far (p:=⟨gb712,2,none⟩) (Kd.R_far (p:=⟨gb712,1,none⟩) (Kd.R_far (p:=⟨gb712,0,none⟩) (Kd.R_types HO708.out BK712.out (by decide)) (fun _ hk=> hk.2) (.slice Ao30 t706.length co30)) (fun _ hk=> hk.2) (.int .i64 t709)) (fun _ hk=> hk.2) (.string t710)) (fun _ hk=> hk.2) (.int .i64 t711)) (fun _ h_=> h_.1))) (Kd.R_base ho0) hb);have n2_:=Aside0.mk (Kd.R_lower (Kd.R_newB (Kd.R_new' (Kd.R_new' ho0 (Kd.R_lt (by (with_reducible repeat (first|apply Kd.R_alloc|apply Kd.R_drewN|apply Kd.R_drew));exact (Kd.R_mono (Kd.R_far (p:=⟨gb712,3,none⟩) (Kd.R_far (p:=⟨gb712,2,none⟩) (Kd.R_far (p:=⟨gb712,1,none⟩) (Kd.R_far (p:=⟨gb712,0,none⟩) (Kd.R_types HO697.out BK712.out (by decide)) (fun _ hk=> hk.2) (.slice Ao30 t706.length co30)) (fun _ hk=> hk.2) (.int .i64 t709)) (fun _ hk=> hk.2) (.string t710)) (fun _ hk=> hk.2) (.int .i64 t711)) (fun _ h_=> h_.1))))) (Kd.R_lt (by (with_reducible repeat (first|apply Kd.R_alloc|apply Kd.R_drewN|apply Kd.R_drew));exact (Kd.R_mono (Kd.R_far (p:=⟨gb712,3,none⟩) (Kd.R_far (p:=⟨gb712,2,none⟩) (Kd.R_far (p:=⟨gb712,1,none⟩) (Kd.R_far (p:=⟨gb712,0,none⟩) (Kd.R_types HO708.out BK712.out (by decide)) (fun _ hk=> hk.2) (.slice Ao30 t706.length co30)) (fun _ hk=> hk.2) (.int .i64 t709)) (fun _ hk=> hk.2) (.string t710)) (fun _ hk=> hk.2) (.int .i64 t711)) (fun _ h_=> h_.1))))) (g:=gb705) (o:= .cells #[.int .i64 t701,.int .i64 t702] 79 (0,0)) (by (with_reducible repeat (first|apply bN|apply bd|apply bA));refine blk_far ?_ NB705_712.out _;(with_reducible repeat (first|apply bN|apply bd|apply bA));refine blk_far ?_ NB705_712.out _;(with_reducible repeat (first|apply bN|apply bd|apply bA));refine blk_far ?_ NB705_712.out _;(with_reducible repeat (first|apply bN|apply bd|apply bA));refine blk_far ?_ NB705_712.out _;(with_reducible repeat (first|apply bN|apply bd|apply bA));exact BK705.out)) (below_size (by repeat (first|(with_reducible first|exact HB.out|apply below_alloc|apply pw_below_drewN|apply below_drew1|refine below_set ?_ GE687.out|refine below_set ?_ GE704.out|refine below_set ?_ GE705.out|refine below_set ?_ GE712.out)|exact HB.out))));have n3_:=Aside0.mk (blk_below (g:=gb687) (o:= .cells #[.slice A0_0 l0_0.length c0_0,.int .i64 a0_1,.string a0_2,.int .i64 a0_3] 61 (0,0)) (by (with_reducible repeat (first|apply bN|apply bd|apply bA));refine blk_far ?_ NB687_712.out _;(with_reducible repeat (first|apply bN|apply bd|apply bA));refine blk_far ?_ NB687_712.out _;(with_reducible repeat (first|apply bN|apply bd|apply bA));refine blk_far ?_ NB687_712.out _;(with_reducible repeat (first|apply bN|apply bd|apply bA));refine blk_far ?_ NB687_712.out _;(with_reducible repeat (first|apply bN|apply bd|apply bA));exact BK687.out) hb);have n4_:=Aside0.mk (blk_below (g:=gb704) (o:= .cells #[.slice Ao21 t695.length co21,.int .i64 t698,.string t699,.int .i64 t700] 36 (0,0)) (by (with_reducible repeat (first|apply bN|apply bd|apply bA));refine blk_far ?_ NB704_712.out _;(with_reducible repeat (first|apply bN|apply bd|apply bA));refine blk_far ?_ NB704_712.out _;(with_reducible repeat (first|apply bN|apply bd|apply bA));refine blk_far ?_ NB704_712.out _;(with_reducible repeat (first|apply bN|apply bd|apply bA));refine blk_far ?_ NB704_712.out _;(with_reducible repeat (first|apply bN|apply bd|apply bA));exact BK704.out) hb);have n5_:=Aside0.mk (blk_below (g:=gb705) (o:= .cells #[.int .i64 t701,.int .i64 t702] 79 (0,0)) (by (with_reducible repeat (first|apply bN|apply bd|apply bA));refine blk_far ?_ NB705_712.out _;(with_reducible repeat (first|apply bN|apply bd|apply bA));refine blk_far ?_ NB705_712.out _;(with_reducible repeat (first|apply bN|apply bd|apply bA));refine blk_far ?_ NB705_712.out _;(with_reducible repeat (first|apply bN|apply bd|apply bA));refine blk_far ?_ NB705_712.out _;(with_reducible repeat (first|apply bN|apply bd|apply bA));exact BK705.out) hb);have n6_:=Aside0.mk (blk_below (g:=gb712) (o:= .cells #[.slice Ao30 t706.length co30,.int .i64 t709,.string t710,.int .i64 t711] 36 (0,0)) (by (with_reducible repeat (first|apply bN|apply bd|apply bA));refine blk_put (cs:= #[.slice Ao30 t706.length co30,.int .i64 t709,.string t710,.int .i64 0]) ?_ 3 _ rfl;(with_reducible repeat (first|apply bN|apply bd|apply bA));refine blk_put (cs:= #[.slice Ao30 t706.length co30,.int .i64 t709,.string (⟨#[]⟩:ByteArray),.int .i64 0]) ?_ 2 _ rfl;(with_reducible repeat (first|apply bN|apply bd|apply bA));refine blk_put (cs:= #[.slice Ao30 t706.length co30,.int .i64 0,.string (⟨#[]⟩:ByteArray),.int .i64 0]) ?_ 1 _ rfl;(with_reducible repeat (first|apply bN|apply bd|apply bA));refine blk_put (cs:= #[.slice none 0 0,.int .i64 0,.string (⟨#[]⟩:ByteArray),.int .i64 0]) ?_ 0 _ rfl;(with_reducible repeat (first|apply bN|apply bd|apply bA));exact BK712.out) hb);have n7_:=Aside0.mk (below_step (by repeat (first|(with_reducible first|exact HB.out|apply below_alloc|apply pw_below_drewN|apply below_drew1|refine below_set ?_ GE687.out|refine below_set ?_ GE704.out|refine below_set ?_ GE705.out|refine below_set ?_ GE712.out)|exact HB.out)) hb);clear HO697;clear HO708;clear BK687;clear BK704;clear BK705;clear BK712;clear HB;have HO697:=n0_;have HO708:=n1_;have HO715:=n2_;have BK687:=n3_;have BK704:=n4_;have BK705:=n5_;have BK712:=n6_;have HB:=n7_;clear n0_ n1_ n2_ n3_ n4_ n5_ n6_ n7_;(try clear hb);(try clear hb2);(try clear hk);(try clear hi);(try clear ho0))|((with_reducible refine gate_dst (N:=8) rfl ?_);refine box_event ?hg (N:=8) ?hd (cs:= #[.slice none 0 0,.int .i64 0,.string (⟨#[]⟩:ByteArray),.int .i64 0]) (t:=36) ?hr ?_;(case hd=> rfl);(case hg=> rfl);(case hr=> first|(go_simp;done)|(go_simp;rfl));intro gb722 hg w36 hbox hb;have n0_:=Aside0.mk (Kd.R_below (by (with_reducible repeat (first|apply Kd.R_alloc|apply Kd.R_drewN|apply Kd.R_drew));exact HO697.out) hb);have n1_:=Aside0.mk (Kd.R_below (by (with_reducible repeat (first|apply Kd.R_alloc|apply Kd.R_drewN|apply Kd.R_drew));exact HO708.out) hb);have n2_:=Aside0.mk (Kd.R_below (by (with_reducible repeat (first|apply Kd.R_alloc|apply Kd.R_drewN|apply Kd.R_drew));exact HO715.out) hb);have n3_:=Aside0.mk (blk_below (g:=gb687) (o:= .cells #[.slice A0_0 l0_0.length c0_0,.int .i64 a0_1,.string a0_2,.int .i64 a0_3] 61 (0,0)) (by (with_reducible repeat (first|apply bN|apply bd|apply bA));exact BK687.out) hb);have n4_:=Aside0.mk (blk_below (g:=gb704) (o:= .cells #[.slice Ao21 t695.length co21,.int .i64 t698,.string t699,.int .i64 t700] 36 (0,0)) (by (with_reducible repeat (first|apply bN|apply bd|apply bA));exact BK704.out) hb);have n5_:=Aside0.mk (blk_below (g:=gb705) (o:= .cells #[.int .i64 t701,.int .i64 t702] 79 (0,0)) (by (with_reducible repeat (first|apply bN|apply bd|apply bA));exact BK705.out) hb);have n6_:=Aside0.mk (blk_below (g:=gb712) (o:= .cells #[.slice Ao30 t706.length co30,.int .i64 t709,.string t710,.int .i64 t711] 36 (0,0)) (by (with_reducible repeat (first|apply bN|apply bd|apply bA));exact BK712.out) hb);have n7_:=Aside0.mk (below_step (by repeat (first|(with_reducible first|exact HB.out|apply below_alloc|apply pw_below_drewN|apply below_drew1|refine below_set ?_ GE687.out|refine below_set ?_ GE704.out|refine below_set ?_ GE705.out|refine below_set ?_ GE712.out)|exact HB.out)) hb);have n8_:=Aside0.mk (hbox);have n9_:=Aside0.mk ((by rw [hg];exact (below_size (by repeat (first|(with_reducible first|exact HB.out|apply below_alloc|apply pw_below_drewN|apply below_drew1|refine below_set ?_ GE687.out|refine below_set ?_ GE704.out|refine below_set ?_ GE705.out|refine below_set ?_ GE712.out)|exact HB.out))):w.heap.size ≤ gb722));have n10_:=Aside0.mk ((by rw [hg];exact (below_size (by repeat (first|(with_reducible first|exact HB.out|apply below_alloc|apply pw_below_drewN|apply below_drew1|refine below_set ?_ GE687.out|refine below_set ?_ GE704.out|refine below_set ?_ GE705.out|refine below_set ?_ GE712.out)|exact HB.out))):w.heap.size ≤ gb722));have n11_:=Aside0.mk ((by rw [hg];exact Nat.ne_of_lt (blk_lt (g:=gb687) (o:= .cells #[.slice A0_0 l0_0.length c0_0,.int .i64 a0_1,.string a0_2,.int .i64 a0_3] 61 (0,0)) (by (with_reducible repeat (first|apply bN|apply bd|apply bA));exact BK687.out)):gb687 ≠ gb722));have n12_:=Aside0.mk ((by rw [hg];exact Nat.ne_of_gt (blk_lt (g:=gb687) (o:= .cells #[.slice A0_0 l0_0.length c0_0,.int .i64 a0_1,.string a0_2,.int .i64 a0_3] 61 (0,0)) (by (with_reducible repeat (first|apply bN|apply bd|apply bA));exact BK687.out)):gb722 ≠ gb687));have n13_:=Aside0.mk ((by rw [hg];exact Nat.ne_of_lt (blk_lt (g:=gb704) (o:= .cells #[.slice Ao21 t695.length co21,.int .i64 t698,.string t699,.int .i64 t700] 36 (0,0)) (by (with_reducible repeat (first|apply bN|apply bd|apply bA));exact BK704.out)):gb704 ≠ gb722));have n14_:=Aside0.mk ((by rw [hg];exact Nat.ne_of_gt (blk_lt (g:=gb704) (o:= .cells #[.slice Ao21 t695.length co21,.int .i64 t698,.string t699,.int .i64 t700] 36 (0,0)) (by (with_reducible repeat (first|apply bN|apply bd|apply bA));exact BK704.out)):gb722 ≠ gb704));have n15_:=Aside0.mk ((by rw [hg];exact Nat.ne_of_lt (blk_lt (g:=gb705) (o:= .cells #[.int .i64 t701,.int .i64 t702] 79 (0,0)) (by (with_reducible repeat (first|apply bN|apply bd|apply bA));exact BK705.out)):gb705 ≠ gb722));have n16_:=Aside0.mk ((by rw [hg];exact Nat.ne_of_gt (blk_lt (g:=gb705) (o:= .cells #[.int .i64 t701,.int .i64 t702] 79 (0,0)) (by (with_reducible repeat (first|apply bN|apply bd|apply bA));exact BK705.out)):gb722 ≠ gb705));have n17_:=Aside0.mk ((by rw [hg];exact Nat.ne_of_lt (blk_lt (g:=gb712) (o:= .cells #[.slice Ao30 t706.length co30,.int .i64 t709,.string t710,.int .i64 t711] 36 (0,0)) (by (with_reducible repeat (first|apply bN|apply bd|apply bA));exact BK712.out)):gb712 ≠ gb722));have n18_:=Aside0.mk ((by rw [hg];exact Nat.ne_of_gt (blk_lt (g:=gb712) (o:= .cells #[.slice Ao30 t706.length co30,.int .i64 t709,.string t710,.int .i64 t711] 36 (0,0)) (by (with_reducible repeat (first|apply bN|apply bd|apply bA));exact BK712.out)):gb722 ≠ gb712));clear HO697;clear HO708;clear HO715;clear BK687;clear BK704;clear BK705;clear BK712;clear HB;have HO697:=n0_;have HO708:=n1_;have HO715:=n2_;have BK687:=n3_;have BK704:=n4_;have BK705:=n5_;have BK712:=n6_;have HB:=n7_;have BK722:=n8_;have GW722:=n9_;have GE722:=n10_;have NB687_722:=n11_;have NB722_687:=n12_;have NB704_722:=n13_;have NB722_704:=n14_;have NB705_722:=n15_;have NB722_705:=n16_;have NB712_722:=n17_;have NB722_712:=n18_;clear n0_ n1_ n2_ n3_ n4_ n5_ n6_ n7_ n8_ n9_ n10_ n11_ n12_ n13_ n14_ n15_ n16_ n17_ n18_;clear hb hbox hg)|((with_reducible refine gate_dst (N:=9) rfl ?_);refine box_event ?hg (N:=9) ?hd (cs:= #[.int .i64 0,.int .i64 0]) (t:=79) ?hr ?_;(case hd=> rfl);(case hg=> rfl);(case hr=> first|(go_simp;done)|(go_simp;rfl));intro gb723 hg w37 hbox hb;have n0_:=Aside0.mk (Kd.R_below (Kd.R_elderB (by (with_reducible repeat (first|apply Kd.R_alloc|apply Kd.R_drewN|apply Kd.R_drew));exact HO697.out) gb723 (Nat.le_of_eq hg.symm)) hb);have n1_:=Aside0.mk (Kd.R_below (Kd.R_elderB (by (with_reducible repeat (first|apply Kd.R_alloc|apply Kd.R_drewN|apply Kd.R_drew));exact HO708.out) gb723 (Nat.le_of_eq hg.symm)) hb);have n2_:=Aside0.mk (Kd.R_below (Kd.R_elderB (by (with_reducible repeat (first|apply Kd.R_alloc|apply Kd.R_drewN|apply Kd.R_drew));exact HO715.out) gb723 (Nat.le_of_eq hg.symm)) hb);have n3_:=Aside0.mk (blk_below (g:=gb687) (o:= .cells #[.slice A0_0 l0_0.length c0_0,.int .i64 a0_1,.string a0_2,.int .i64 a0_3] 61 (0,0)) (by (with_reducible repeat (first|apply bN|apply bd|apply bA));exact BK687.out) hb);have n4_:=Aside0.mk (blk_below (g:=gb704) (o:= .cells #[.slice Ao21 t695.length co21,.int .i64 t698,.string t699,.int .i64 t700] 36 (0,0)) (by (with_reducible repeat (first|apply bN|apply bd|apply bA));exact BK704.out) hb);have n5_:=Aside0.mk (blk_below (g:=gb705) (o:= .cells #[.int .i64 t701,.int .i64 t702] 79 (0,0)) (by (with_reducible repeat (first|apply bN|apply bd|apply bA));exact BK705.out) hb);have n6_:=Aside0.mk (blk_below (g:=gb712) (o:= .cells #[.slice Ao30 t706.length co30,.int .i64 t709,.string t710,.int .i64 t711] 36 (0,0)) (by (with_reducible repeat (first|apply bN|apply bd|apply bA));exact BK712.out) hb);have n7_:=Aside0.mk (blk_below (g:=gb722) (o:= .cells #[.slice none 0 0,.int .i64 0,.string (⟨#[]⟩:ByteArray),.int .i64 0] 36 (0,0)) (by (with_reducible repeat (first|apply bN|apply bd|apply bA));exact BK722.out) hb);have n8_:=Aside0.mk (below_step (by repeat (first|(with_reducible first|exact HB.out|apply below_alloc|apply pw_below_drewN|apply below_drew1|refine below_set ?_ GE687.out|refine below_set ?_ GE704.out|refine below_set ?_ GE705.out|refine below_set ?_ GE712.out|refine below_set ?_ GE722.out)|exact HB.out)) hb);have n9_:=Aside0.mk (hbox);have n10_:=Aside0.mk ((by rw [hg];exact (below_size (by repeat (first|(with_reducible first|exact HB.out|apply below_alloc|apply pw_below_drewN|apply below_drew1|refine below_set ?_ GE687.out|refine below_set ?_ GE704.out|refine below_set ?_ GE705.out|refine below_set ?_ GE712.out|refine below_set ?_ GE722.out)|exact HB.out))):w.heap.size ≤ gb723));have n11_:=Aside0.mk ((by rw [hg];exact (below_size (by repeat (first|(with_reducible first|exact HB.out|apply below_alloc|apply pw_below_drewN|apply below_drew1|refine below_set ?_ GE687.out|refine below_set ?_ GE704.out|refine below_set ?_ GE705.out|refine below_set ?_ GE712.out|refine below_set ?_ GE722.out)|exact HB.out))):w.heap.size ≤ gb723));have n12_:=Aside0.mk ((by rw [hg];exact Nat.ne_of_lt (blk_lt (g:=gb687) (o:= .cells #[.slice A0_0 l0_0.length c0_0,.int .i64 a0_1,.string a0_2,.int .i64 a0_3] 61 (0,0)) (by (with_reducible repeat (first|apply bN|apply bd|apply bA));exact BK687.out)):gb687 ≠ gb723));have n13_:=Aside0.mk ((by rw [hg];exact Nat.ne_of_gt (blk_lt (g:=gb687) (o:= .cells #[.slice A0_0 l0_0.length c0_0,.int .i64 a0_1,.string a0_2,.int .i64 a0_3] 61 (0,0)) (by (with_reducible repeat (first|apply bN|apply bd|apply bA));exact BK687.out)):gb723 ≠ gb687));have n14_:=Aside0.mk ((by rw [hg];exact Nat.ne_of_lt (blk_lt (g:=gb704) (o:= .cells #[.slice Ao21 t695.length co21,.int .i64 t698,.string t699,.int .i64 t700] 36 (0,0)) (by (with_reducible repeat (first|apply bN|apply bd|apply bA));exact BK704.out)):gb704 ≠ gb723));have n15_:=Aside0.mk ((by rw [hg];exact Nat.ne_of_gt (blk_lt (g:=gb704) (o:= .cells #[.slice Ao21 t695.length co21,.int .i64 t698,.string t699,.int .i64 t700] 36 (0,0)) (by (with_reducible repeat (first|apply bN|apply bd|apply bA));exact BK704.out)):gb723 ≠ gb704));have n16_:=Aside0.mk ((by rw [hg];exact Nat.ne_of_lt (blk_lt (g:=gb705) (o:= .cells #[.int .i64 t701,.int .i64 t702] 79 (0,0)) (by (with_reducible repeat (first|apply bN|apply bd|apply bA));exact BK705.out)):gb705 ≠ gb723));have n17_:=Aside0.mk ((by rw [hg];exact Nat.ne_of_gt (blk_lt (g:=gb705) (o:= .cells #[.int .i64 t701,.int .i64 t702] 79 (0,0)) (by (with_reducible repeat (first|apply bN|apply bd|apply bA));exact BK705.out)):gb723 ≠ gb705));have n18_:=Aside0.mk ((by rw [hg];exact Nat.ne_of_lt (blk_lt (g:=gb712) (o:= .cells #[.slice Ao30 t706.length co30,.int .i64 t709,.string t710,.int .i64 t711] 36 (0,0)) (by (with_reducible repeat (first|apply bN|apply bd|apply bA));exact BK712.out)):gb712 ≠ gb723));have n19_:=Aside0.mk ((by rw [hg];exact Nat.ne_of_gt (blk_lt (g:=gb712) (o:= .cells #[.slice Ao30 t706.length co30,.int .i64 t709,.string t710,.int .i64 t711] 36 (0,0)) (by (with_reducible repeat (first|apply bN|apply bd|apply bA));exact BK712.out)):gb723 ≠ gb712));have n20_:=Aside0.mk ((by rw [hg];exact Nat.ne_of_lt (blk_lt (g:=gb722) (o:= .cells #[.slice none 0 0,.int .i64 0,.string (⟨#[]⟩:ByteArray),.int .i64 0] 36 (0,0)) (by (with_reducible repeat (first|apply bN|apply bd|apply bA));exact BK722.out)):gb722 ≠ gb723));have n21_:=Aside0.mk ((by rw [hg];exact Nat.ne_of_gt (blk_lt (g:=gb722) (o:= .cells #[.slice none 0 0,.int .i64 0,.string (⟨#[]⟩:ByteArray),.int .i64 0] 36 (0,0)) (by (with_reducible repeat (first|apply bN|apply bd|apply bA));exact BK722.out)):gb723 ≠ gb722));clear HO697;clear HO708;clear HO715;clear BK687;clear BK704;clear BK705;clear BK712;clear BK722;clear HB;have HO697:=n0_;have HO708:=n1_;have HO715:=n2_;have BK687:=n3_;have BK704:=n4_;have BK705:=n5_;have BK712:=n6_;have BK722:=n7_;have HB:=n8_;have BK723:=n9_;have GW723:=n10_;have GE723:=n11_;have NB687_723:=n12_;have NB723_687:=n13_;have NB704_723:=n14_;have NB723_704:=n15_;have NB705_723:=n16_;have NB723_705:=n17_;have NB712_723:=n18_;have NB723_712:=n19_;have NB722_723:=n20_;have NB723_722:=n21_;clear n0_ n1_ n2_ n3_ n4_ n5_ n6_ n7_ n8_ n9_ n10_ n11_ n12_ n13_ n14_ n15_ n16_ n17_ n18_ n19_ n20_ n21_;clear hb hbox hg;obtain ⟨Ao38,co38,eo38⟩:=Kd.R_slice HO715.out;subst eo38;have hnb39:=NB722_687.out;have hnc39:=NB687_722.out;have hnb40:=NB722_704.out;have hnc40:=NB704_722.out;have hnb41:=NB722_705.out;have hnc41:=NB705_722.out;have hnb42:=NB722_712.out;have hnc42:=NB712_722.out;have hnb43:=NB722_723.out;have hnc43:=NB723_722.out;have hcz44_0:w37.cell? ⟨gb722,0,none⟩=some (.slice none 0 0):=(blk_cell BK722.out 0).trans rfl;have hcz44_1:w37.cell? ⟨gb722,1,none⟩=some (.int .i64 0):=(blk_cell BK722.out 1).trans rfl;have hcz44_2:w37.cell? ⟨gb722,2,none⟩=some (.string (⟨#[]⟩:ByteArray)):=(blk_cell BK722.out 2).trans rfl;have hcz44_3:w37.cell? ⟨gb722,3,none⟩=some (.int .i64 0):=(blk_cell BK722.out 3).trans rfl;have hfz44_0:=blk_frozen BK722.out 0;have hfz44_1:=blk_frozen BK722.out 1;have hfz44_2:=blk_frozen BK722.out 2;have hfz44_3:=blk_frozen BK722.out 3;have hnb45:=NB723_687.out;have hnc45:=NB687_723.out;have hnb46:=NB723_704.out;have hnc46:=NB704_723.out;have hnb47:=NB723_705.out;have hnc47:=NB705_723.out;have hnb48:=NB723_712.out;have hnc48:=NB712_723.out;have hcz49_0:w37.cell? ⟨gb723,0,none⟩=some (.int .i64 0):=(blk_cell BK723.out 0).trans rfl;have hcz49_1:w37.cell? ⟨gb723,1,none⟩=some (.int .i64 0):=(blk_cell BK723.out 1).trans rfl;have hfz49_0:=blk_frozen BK723.out 0;have hfz49_1:=blk_frozen BK723.out 1))
    (try simp only [Act.put,List.setIfInBounds_toArray,List.set_cons_zero,List.set_cons_succ])
    go_cut [51] (fun v51 wc=> ∃ (kq:Nat) (x51_10:Bool),v51= .bool x51_10 ∧ Aside0 (laws_FnExactTakeOne.j0 kq t703 t721 x51_10 l0_0 a0_1 a0_2 a0_3 t695 t698 t699 t700 t701 t702 t706 t709 t710 t711 t713 t716 t717 t718 t719 t720=some r) ∧ Aside0 (kq ≤ k) ∧ Aside0 (Kd.R k79 79 wc w.heap.size (fun k_=> some k_ ≠ ((.slice Ao30 t706.length co30):Value).ownBlock ∧ some k_ ≠ ((.slice Ao38 t713.length co38):Value).ownBlock ∧ k_ ≠ gb705 ∧ k_ ≠ gb723) (.slice Ao21 t695.length co21) t695) ∧ Aside0 (Kd.R k79 79 wc w.heap.size (fun k_=> some k_ ≠ ((.slice Ao21 t695.length co21):Value).ownBlock ∧ some k_ ≠ ((.slice Ao38 t713.length co38):Value).ownBlock ∧ k_ ≠ gb705 ∧ k_ ≠ gb723) (.slice Ao30 t706.length co30) t706) ∧ Aside0 (Kd.R k79 79 wc w.heap.size (fun k_=> some k_ ≠ ((.slice Ao21 t695.length co21):Value).ownBlock ∧ some k_ ≠ ((.slice Ao30 t706.length co30):Value).ownBlock ∧ k_ ≠ gb705 ∧ k_ ≠ gb723) (.slice Ao38 t713.length co38) t713) ∧ Aside0 (wc.heap[gb687]?=some (.cells #[(.slice A0_0 l0_0.length c0_0),.int .i64 a0_1,.string a0_2,.int .i64 a0_3] 61 (0,0))) ∧ Aside0 (wc.heap[gb704]?=some (.cells #[(.slice Ao21 t695.length co21),.int .i64 t698,.string t699,.int .i64 t700] 36 (0,0))) ∧ Aside0 (wc.heap[gb705]?=some (.cells #[.int .i64 t701,.int .i64 t702] 79 (0,0))) ∧ Aside0 (wc.heap[gb712]?=some (.cells #[(.slice Ao30 t706.length co30),.int .i64 t709,.string t710,.int .i64 t711] 36 (0,0))) ∧ Aside0 (wc.heap[gb722]?=some (.cells #[(.slice Ao38 t713.length co38),.int .i64 t716,.string t717,.int .i64 t718] 36 (0,0))) ∧ Aside0 (wc.heap[gb723]?=some (.cells #[.int .i64 t719,.int .i64 t720] 79 (0,0))) ∧ Aside0 (Below w.heap.size w wc))
    case first=>
      have H:=HC11.out
      clear HC11
      replace H:=Option.bind_eq_some_iff.mp H
      obtain ⟨t724,A500,H⟩:=H
      replace H:(if t724=true then ((laws_eqExt.f t719 t720 t701 t702).bind fun t725=> (if t725=true then (laws_FnExactTakeOne.j0 k t703 t721 (t721 !=t703) l0_0 a0_1 a0_2 a0_3 t695 t698 t699 t700 t701 t702 t706 t709 t710 t711 t713 t716 t717 t718 t719 t720) else (none))) else (none))=some r:=H
      have A50:=Aside0.mk A500
      clear A500
      by_cases c51:t724=true
      · subst c51
        have H1:((laws_eqExt.f t719 t720 t701 t702).bind fun t725=> (if t725=true then (laws_FnExactTakeOne.j0 k t703 t721 (t721 !=t703) l0_0 a0_1 a0_2 a0_3 t695 t698 t699 t700 t701 t702 t706 t709 t710 t711 t713 t716 t717 t718 t719 t720) else (none)))=some r:=by rw [if_pos rfl] at H;exact H
        clear H
        have H:=H1
        clear H1
        replace H:=Option.bind_eq_some_iff.mp H
        obtain ⟨t725,A520,H⟩:=H
        replace H:(if t725=true then (laws_FnExactTakeOne.j0 k t703 t721 (t721 !=t703) l0_0 a0_1 a0_2 a0_3 t695 t698 t699 t700 t701 t702 t706 t709 t710 t711 t713 t716 t717 t718 t719 t720) else (none))=some r:=H
        have A52:=Aside0.mk A520
        clear A520
        by_cases c53:t725=true
        · subst c53
          have H1:(laws_FnExactTakeOne.j0 k t703 t721 (t721 !=t703) l0_0 a0_1 a0_2 a0_3 t695 t698 t699 t700 t701 t702 t706 t709 t710 t711 t713 t716 t717 t718 t719 t720)=some r:=by rw [if_pos rfl] at H;exact H
          clear H
          have H:=H1
          clear H1
          have H':=Aside0.mk H
          clear H
          have hnb54:=NB722_687.out
          have hnc54:=NB687_722.out
          have hnb55:=NB722_704.out
          have hnc55:=NB704_722.out
          have hnb56:=NB722_705.out
          have hnc56:=NB705_722.out
          have hnb57:=NB722_712.out
          have hnc57:=NB712_722.out
          have hnb58:=NB722_723.out
          have hnc58:=NB723_722.out
          have hcz59_0:w37.cell? ⟨gb722,0,none⟩=some (.slice none 0 0):=(blk_cell BK722.out 0).trans rfl
          have hcz59_1:w37.cell? ⟨gb722,1,none⟩=some (.int .i64 0):=(blk_cell BK722.out 1).trans rfl
          have hcz59_2:w37.cell? ⟨gb722,2,none⟩=some (.string (⟨#[]⟩:ByteArray)):=(blk_cell BK722.out 2).trans rfl
          have hcz59_3:w37.cell? ⟨gb722,3,none⟩=some (.int .i64 0):=(blk_cell BK722.out 3).trans rfl
          have hfz59_0:=blk_frozen BK722.out 0
          have hfz59_1:=blk_frozen BK722.out 1
          have hfz59_2:=blk_frozen BK722.out 2
          have hfz59_3:=blk_frozen BK722.out 3
          have hnb60:=NB704_687.out
          have hnc60:=NB687_704.out
          have hnb61:=NB704_705.out
          have hnc61:=NB705_704.out
          have hnb62:=NB704_712.out
          have hnc62:=NB712_704.out
          have hnb63:=NB704_723.out
          have hnc63:=NB723_704.out
          have hcz64_0:w37.cell? ⟨gb704,0,none⟩=some (.slice Ao21 t695.length co21):=(blk_cell BK704.out 0).trans rfl
          have hcz64_1:w37.cell? ⟨gb704,1,none⟩=some (.int .i64 t698):=(blk_cell BK704.out 1).trans rfl
          have hcz64_2:w37.cell? ⟨gb704,2,none⟩=some (.string t699):=(blk_cell BK704.out 2).trans rfl
          have hcz64_3:w37.cell? ⟨gb704,3,none⟩=some (.int .i64 t700):=(blk_cell BK704.out 3).trans rfl
          have hfz64_0:=blk_frozen BK704.out 0
          have hfz64_1:=blk_frozen BK704.out 1
          have hfz64_2:=blk_frozen BK704.out 2
          have hfz64_3:=blk_frozen BK704.out 3
          go_wp2_with (first|((with_reducible refine gate_callee (f:=36) rfl ?_);refine goesL_ (some 39) rfl rfl Try.func36 (by kernel_rfl) rfl #[.agg #[.slice Ao38 t713.length co38,.int .i64 t716,.string t717,.int .i64 t718],.agg #[.slice Ao21 t695.length co21,.int .i64 t698,.string t699,.int .i64 t700]] rfl (by (try simp only [List.map_toArray,List.map_cons,List.map_nil]);first|done|rfl|(simp only [List.length_drop,List.length_take];rfl)) ?_;(with_reducible refine (laws_eqSource.calls k _ _ t713 t716 t717 t718 _ _ t695 t698 t699 t700 true _ ?side1 ?side2 ?side3 ?side4 A50.out).mono ?_);(case side1=> refine (Kd.R_reads' (e:=79) (base:=w.heap.size) (ok:=fun k_=> ((((True ∧ some k_ ≠ (.slice Ao21 t695.length co21:Value).ownBlock) ∧ some k_ ≠ (.slice Ao30 t706.length co30:Value).ownBlock) ∧ k_ ≠ gb705) ∧ k_ ≠ gb723)) (n:=t713.length) (c:=co38) ?_).2.2;exact (by (with_reducible repeat (first|apply Kd.R_alloc|apply Kd.R_drewN|apply Kd.R_drew));exact (Kd.R_mono (Kd.R_mono (Kd.R_far (p:=⟨gb723,1,none⟩) (Kd.R_far (p:=⟨gb723,0,none⟩) (Kd.R_far (p:=⟨gb722,3,none⟩) (Kd.R_far (p:=⟨gb722,2,none⟩) (Kd.R_far (p:=⟨gb722,1,none⟩) (Kd.R_far (p:=⟨gb722,0,none⟩) (Kd.R_mono (Kd.R_types HO715.out BK722.out (by decide)) (fun k_ hk=> (⟨hk,hk.1.2⟩:_ ∧ k_ ≠ gb723))) (fun _ hk=> hk.1.2) (.slice Ao38 t713.length co38)) (fun _ hk=> hk.1.2) (.int .i64 t716)) (fun _ hk=> hk.1.2) (.string t717)) (fun _ hk=> hk.1.2) (.int .i64 t718)) (fun _ hk=> hk.2) (.int .i64 t719)) (fun _ hk=> hk.2) (.int .i64 t720)) (fun _ h_=> h_.1)) (fun _ h_=> h_.1))));(case side2=> exact (Kd.R_reads' HO715.out).2.1);(case side3=> refine (Kd.R_reads' (e:=79) (base:=w.heap.size) (ok:=fun k_=> ((((True ∧ k_ ≠ gb705) ∧ some k_ ≠ (.slice Ao30 t706.length co30:Value).ownBlock) ∧ some k_ ≠ (.slice Ao38 t713.length co38:Value).ownBlock) ∧ k_ ≠ gb723)) (n:=t695.length) (c:=co21) ?_).2.2;exact (by (with_reducible repeat (first|apply Kd.R_alloc|apply Kd.R_drewN|apply Kd.R_drew));exact (Kd.R_mono (Kd.R_mono (Kd.R_far (p:=⟨gb723,1,none⟩) (Kd.R_far (p:=⟨gb723,0,none⟩) (Kd.R_far (p:=⟨gb722,3,none⟩) (Kd.R_far (p:=⟨gb722,2,none⟩) (Kd.R_far (p:=⟨gb722,1,none⟩) (Kd.R_far (p:=⟨gb722,0,none⟩) (Kd.R_mono (Kd.R_types HO697.out BK722.out (by decide)) (fun k_ hk=> (⟨hk,hk.1.2⟩:_ ∧ k_ ≠ gb723))) (fun _ hk=> hk.1.2) (.slice Ao38 t713.length co38)) (fun _ hk=> hk.1.2) (.int .i64 t716)) (fun _ hk=> hk.1.2) (.string t717)) (fun _ hk=> hk.1.2) (.int .i64 t718)) (fun _ hk=> hk.2) (.int .i64 t719)) (fun _ hk=> hk.2) (.int .i64 t720)) (fun _ h_=> h_.1)) (fun _ h_=> h_.1))));(case side4=> exact (Kd.R_reads' HO697.out).2.1);rintro e w65 ⟨rfl,hb⟩;refine ⟨_,rfl,?_⟩;have n0_:=Aside0.mk (Kd.R_below (by (with_reducible repeat (first|apply Kd.R_alloc|apply Kd.R_drewN|apply Kd.R_drew));exact (Kd.R_mono (Kd.R_mono (Kd.R_far (p:=⟨gb723,1,none⟩) (Kd.R_far (p:=⟨gb723,0,none⟩) (Kd.R_far (p:=⟨gb722,3,none⟩) (Kd.R_far (p:=⟨gb722,2,none⟩) (Kd.R_far (p:=⟨gb722,1,none⟩) (Kd.R_far (p:=⟨gb722,0,none⟩) (Kd.R_mono (Kd.R_types HO697.out BK722.out (by decide)) (fun k_ hk=> (⟨hk,hk.1.2⟩:_ ∧ k_ ≠ gb723))) (fun _ hk=> hk.1.2) (.slice Ao38 t713.length co38)) (fun _ hk=> hk.1.2) (.int .i64 t716)) (fun _ hk=> hk.1.2) (.string t717)) (fun _ hk=> hk.1.2) (.int .i64 t718)) (fun _ hk=> hk.2) (.int .i64 t719)) (fun _ hk=> hk.2) (.int .i64 t720)) (fun _ h_=> h_.1)) (fun _ h_=> h_.1))) hb);have n1_:=Aside0.mk (Kd.R_below (by (with_reducible repeat (first|apply Kd.R_alloc|apply Kd.R_drewN|apply Kd.R_drew));exact (Kd.R_mono (Kd.R_mono (Kd.R_far (p:=⟨gb723,1,none⟩) (Kd.R_far (p:=⟨gb723,0,none⟩) (Kd.R_far (p:=⟨gb722,3,none⟩) (Kd.R_far (p:=⟨gb722,2,none⟩) (Kd.R_far (p:=⟨gb722,1,none⟩) (Kd.R_far (p:=⟨gb722,0,none⟩) (Kd.R_mono (Kd.R_types HO708.out BK722.out (by decide)) (fun k_ hk=> (⟨hk,hk.1.2⟩:_ ∧ k_ ≠ gb723))) (fun _ hk=> hk.1.2) (.slice Ao38 t713.length co38)) (fun _ hk=> hk.1.2) (.int .i64 t716)) (fun _ hk=> hk.1.2) (.string t717)) (fun _ hk=> hk.1.2) (.int .i64 t718)) (fun _ hk=> hk.2) (.int .i64 t719)) (fun _ hk=> hk.2) (.int .i64 t720)) (fun _ h_=> h_.1)) (fun _ h_=> h_.1))) hb);have n2_:=Aside0.mk (Kd.R_below (by (with_reducible repeat (first|apply Kd.R_alloc|apply Kd.R_drewN|apply Kd.R_drew));exact (Kd.R_mono (Kd.R_mono (Kd.R_far (p:=⟨gb723,1,none⟩) (Kd.R_far (p:=⟨gb723,0,none⟩) (Kd.R_far (p:=⟨gb722,3,none⟩) (Kd.R_far (p:=⟨gb722,2,none⟩) (Kd.R_far (p:=⟨gb722,1,none⟩) (Kd.R_far (p:=⟨gb722,0,none⟩) (Kd.R_mono (Kd.R_types HO715.out BK722.out (by decide)) (fun k_ hk=> (⟨hk,hk.1.2⟩:_ ∧ k_ ≠ gb723))) (fun _ hk=> hk.1.2) (.slice Ao38 t713.length co38)) (fun _ hk=> hk.1.2) (.int .i64 t716)) (fun _ hk=> hk.1.2) (.string t717)) (fun _ hk=> hk.1.2) (.int .i64 t718)) (fun _ hk=> hk.2) (.int .i64 t719)) (fun _ hk=> hk.2) (.int .i64 t720)) (fun _ h_=> h_.1)) (fun _ h_=> h_.1))) hb);have n3_:=Aside0.mk (blk_below (g:=gb687) (o:= .cells #[.slice A0_0 l0_0.length c0_0,.int .i64 a0_1,.string a0_2,.int .i64 a0_3] 61 (0,0)) (by (with_reducible repeat (first|apply bN|apply bd|apply bA));refine blk_far ?_ NB687_723.out _;(with_reducible repeat (first|apply bN|apply bd|apply bA));refine blk_far ?_ NB687_723.out _;(with_reducible repeat (first|apply bN|apply bd|apply bA));refine blk_far ?_ NB687_722.out _;(with_reducible repeat (first|apply bN|apply bd|apply bA));refine blk_far ?_ NB687_722.out _;(with_reducible repeat (first|apply bN|apply bd|apply bA));refine blk_far ?_ NB687_722.out _;(with_reducible repeat (first|apply bN|apply bd|apply bA));refine blk_far ?_ NB687_722.out _;(with_reducible repeat (first|apply bN|apply bd|apply bA));exact BK687.out) hb);have n4_:=Aside0.mk (blk_below (g:=gb704) (o:= .cells #[.slice Ao21 t695.length co21,.int .i64 t698,.string t699,.int .i64 t700] 36 (0,0)) (by (with_reducible repeat (first|apply bN|apply bd|apply bA));refine blk_far ?_ NB704_723.out _;(with_reducible repeat (first|apply bN|apply bd|apply bA));refine blk_far ?_ NB704_723.out _;(with_reducible repeat (first|apply bN|apply bd|apply bA));refine blk_far ?_ NB704_722.out _;(with_reducible repeat (first|apply bN|apply bd|apply bA));refine blk_far ?_ NB704_722.out _;(with_reducible repeat (first|apply bN|apply bd|apply bA));refine blk_far ?_ NB704_722.out _;(with_reducible repeat (first|apply bN|apply bd|apply bA));refine blk_far ?_ NB704_722.out _;(with_reducible repeat (first|apply bN|apply bd|apply bA));exact BK704.out) hb);have n5_:=Aside0.mk (blk_below (g:=gb705) (o:= .cells #[.int .i64 t701,.int .i64 t702] 79 (0,0)) (by (with_reducible repeat (first|apply bN|apply bd|apply bA));refine blk_far ?_ NB705_723.out _;(with_reducible repeat (first|apply bN|apply bd|apply bA));refine blk_far ?_ NB705_723.out _;(with_reducible repeat (first|apply bN|apply bd|apply bA));refine blk_far ?_ NB705_722.out _;(with_reducible repeat (first|apply bN|apply bd|apply bA));refine blk_far ?_ NB705_722.out _;(with_reducible repeat (first|apply bN|apply bd|apply bA));refine blk_far ?_ NB705_722.out _;(with_reducible repeat (first|apply bN|apply bd|apply bA));refine blk_far ?_ NB705_722.out _;(with_reducible repeat (first|apply bN|apply bd|apply bA));exact BK705.out) hb);have n6_:=Aside0.mk (blk_below (g:=gb712) (o:= .cells #[.slice Ao30 t706.length co30,.int .i64 t709,.string t710,.int .i64 t711] 36 (0,0)) (by (with_reducible repeat (first|apply bN|apply bd|apply bA));refine blk_far ?_ NB712_723.out _;(with_reducible repeat (first|apply bN|apply bd|apply bA));refine blk_far ?_ NB712_723.out _;(with_reducible repeat (first|apply bN|apply bd|apply bA));refine blk_far ?_ NB712_722.out _;(with_reducible repeat (first|apply bN|apply bd|apply bA));refine blk_far ?_ NB712_722.out _;(with_reducible repeat (first|apply bN|apply bd|apply bA));refine blk_far ?_ NB712_722.out _;(with_reducible repeat (first|apply bN|apply bd|apply bA));refine blk_far ?_ NB712_722.out _;(with_reducible repeat (first|apply bN|apply bd|apply bA));exact BK712.out) hb);have n7_:=Aside0.mk (blk_below (g:=gb722) (o:= .cells #[.slice Ao38 t713.length co38,.int .i64 t716,.string t717,.int .i64 t718] 36 (0,0)) (by (with_reducible repeat (first|apply bN|apply bd|apply bA));refine blk_far ?_ NB722_723.out _;(with_reducible repeat (first|apply bN|apply bd|apply bA));refine blk_far ?_ NB722_723.out _;(with_reducible repeat (first|apply bN|apply bd|apply bA));refine blk_put (cs:= #[.slice Ao38 t713.length co38,.int .i64 t716,.string t717,.int .i64 0]) ?_ 3 _ rfl;(with_reducible repeat (first|apply bN|apply bd|apply bA));refine blk_put (cs:= #[.slice Ao38 t713.length co38,.int .i64 t716,.string (⟨#[]⟩:ByteArray),.int .i64 0]) ?_ 2 _ rfl;(with_reducible repeat (first|apply bN|apply bd|apply bA));refine blk_put (cs:= #[.slice Ao38 t713.length co38,.int .i64 0,.string (⟨#[]⟩:ByteArray),.int .i64 0]) ?_ 1 _ rfl;(with_reducible repeat (first|apply bN|apply bd|apply bA));refine blk_put (cs:= #[.slice none 0 0,.int .i64 0,.string (⟨#[]⟩:ByteArray),.int .i64 0]) ?_ 0 _ rfl;(with_reducible repeat (first|apply bN|apply bd|apply bA));exact BK722.out) hb);have n8_:=Aside0.mk (blk_below (g:=gb723) (o:= .cells #[.int .i64 t719,.int .i64 t720] 79 (0,0)) (by (with_reducible repeat (first|apply bN|apply bd|apply bA));refine blk_put (cs:= #[.int .i64 t719,.int .i64 0]) ?_ 1 _ rfl;(with_reducible repeat (first|apply bN|apply bd|apply bA));refine blk_put (cs:= #[.int .i64 0,.int .i64 0]) ?_ 0 _ rfl;(with_reducible repeat (first|apply bN|apply bd|apply bA));refine blk_far ?_ NB723_722.out _;(with_reducible repeat (first|apply bN|apply bd|apply bA));refine blk_far ?_ NB723_722.out _;(with_reducible repeat (first|apply bN|apply bd|apply bA));refine blk_far ?_ NB723_722.out _;(with_reducible repeat (first|apply bN|apply bd|apply bA));refine blk_far ?_ NB723_722.out _;(with_reducible repeat (first|apply bN|apply bd|apply bA));exact BK723.out) hb);have n9_:=Aside0.mk (below_step (by repeat (first|(with_reducible first|exact HB.out|apply below_alloc|apply pw_below_drewN|apply below_drew1|refine below_set ?_ GE687.out|refine below_set ?_ GE704.out|refine below_set ?_ GE705.out|refine below_set ?_ GE712.out|refine below_set ?_ GE722.out|refine below_set ?_ GE723.out)|exact HB.out)) hb);clear HO697;clear HO708;clear HO715;clear BK687;clear BK704;clear BK705;clear BK712;clear BK722;clear BK723;clear HB;have HO697:=n0_;have HO708:=n1_;have HO715:=n2_;have BK687:=n3_;have BK704:=n4_;have BK705:=n5_;have BK712:=n6_;have BK722:=n7_;have BK723:=n8_;have HB:=n9_;clear n0_ n1_ n2_ n3_ n4_ n5_ n6_ n7_ n8_ n9_;(try clear hb);(try clear hb2);(try clear hk);(try clear hi);have hnb66:=NB723_687.out;have hnc66:=NB687_723.out;have hnb67:=NB723_705.out;have hnc67:=NB705_723.out;have hnb68:=NB723_712.out;have hnc68:=NB712_723.out;have hcz69_0:w65.cell? ⟨gb723,0,none⟩=some (.int .i64 t719):=(blk_cell BK723.out 0).trans rfl;have hcz69_1:w65.cell? ⟨gb723,1,none⟩=some (.int .i64 t720):=(blk_cell BK723.out 1).trans rfl;have hfz69_0:=blk_frozen BK723.out 0;have hfz69_1:=blk_frozen BK723.out 1;have hnb70:=NB705_687.out;have hnc70:=NB687_705.out;have hnb71:=NB705_712.out;have hnc71:=NB712_705.out;have hcz72_0:w65.cell? ⟨gb705,0,none⟩=some (.int .i64 t701):=(blk_cell BK705.out 0).trans rfl;have hcz72_1:w65.cell? ⟨gb705,1,none⟩=some (.int .i64 t702):=(blk_cell BK705.out 1).trans rfl;have hfz72_0:=blk_frozen BK705.out 0;have hfz72_1:=blk_frozen BK705.out 1)|(go_at_call 71;(with_reducible refine (laws_eqExt.calls t719 t720 t701 t702 true _ A52.out).mono ?_);rintro e w73 ⟨rfl,hb⟩;have n0_:=Aside0.mk (Kd.R_below (by (with_reducible repeat (first|apply Kd.R_alloc|apply Kd.R_drewN|apply Kd.R_drew));exact HO697.out) hb);have n1_:=Aside0.mk (Kd.R_below (by (with_reducible repeat (first|apply Kd.R_alloc|apply Kd.R_drewN|apply Kd.R_drew));exact HO708.out) hb);have n2_:=Aside0.mk (Kd.R_below (by (with_reducible repeat (first|apply Kd.R_alloc|apply Kd.R_drewN|apply Kd.R_drew));exact HO715.out) hb);have n3_:=Aside0.mk (blk_below (g:=gb687) (o:= .cells #[.slice A0_0 l0_0.length c0_0,.int .i64 a0_1,.string a0_2,.int .i64 a0_3] 61 (0,0)) (by (with_reducible repeat (first|apply bN|apply bd|apply bA));exact BK687.out) hb);have n4_:=Aside0.mk (blk_below (g:=gb704) (o:= .cells #[.slice Ao21 t695.length co21,.int .i64 t698,.string t699,.int .i64 t700] 36 (0,0)) (by (with_reducible repeat (first|apply bN|apply bd|apply bA));exact BK704.out) hb);have n5_:=Aside0.mk (blk_below (g:=gb705) (o:= .cells #[.int .i64 t701,.int .i64 t702] 79 (0,0)) (by (with_reducible repeat (first|apply bN|apply bd|apply bA));exact BK705.out) hb);have n6_:=Aside0.mk (blk_below (g:=gb712) (o:= .cells #[.slice Ao30 t706.length co30,.int .i64 t709,.string t710,.int .i64 t711] 36 (0,0)) (by (with_reducible repeat (first|apply bN|apply bd|apply bA));exact BK712.out) hb);have n7_:=Aside0.mk (blk_below (g:=gb722) (o:= .cells #[.slice Ao38 t713.length co38,.int .i64 t716,.string t717,.int .i64 t718] 36 (0,0)) (by (with_reducible repeat (first|apply bN|apply bd|apply bA));exact BK722.out) hb);have n8_:=Aside0.mk (blk_below (g:=gb723) (o:= .cells #[.int .i64 t719,.int .i64 t720] 79 (0,0)) (by (with_reducible repeat (first|apply bN|apply bd|apply bA));exact BK723.out) hb);have n9_:=Aside0.mk (below_step (by repeat (first|(with_reducible first|exact HB.out|apply below_alloc|apply pw_below_drewN|apply below_drew1|refine below_set ?_ GE687.out|refine below_set ?_ GE704.out|refine below_set ?_ GE705.out|refine below_set ?_ GE712.out|refine below_set ?_ GE722.out|refine below_set ?_ GE723.out)|exact HB.out)) hb);clear HO697;clear HO708;clear HO715;clear BK687;clear BK704;clear BK705;clear BK712;clear BK722;clear BK723;clear HB;have HO697:=n0_;have HO708:=n1_;have HO715:=n2_;have BK687:=n3_;have BK704:=n4_;have BK705:=n5_;have BK712:=n6_;have BK722:=n7_;have BK723:=n8_;have HB:=n9_;clear n0_ n1_ n2_ n3_ n4_ n5_ n6_ n7_ n8_ n9_;(try clear hb);(try clear hb2);(try clear hk);(try clear hi)))
          go_meet
          case rel=> exact ⟨_,((t721 !=t703)),(by first|rfl|(simp;done)|(simp [*];done)),H',⟨by first|omega|exact Nat.le_refl _⟩,⟨by (with_reducible repeat (first|apply Kd.R_alloc|apply Kd.R_drewN|apply Kd.R_drew));exact Kd.R_mono HO697.out (fun _ hk=> ⟨hk.1.1.2,⟨hk.1.2,⟨hk.1.1.1.2,hk.2⟩⟩⟩)⟩,⟨by (with_reducible repeat (first|apply Kd.R_alloc|apply Kd.R_drewN|apply Kd.R_drew));exact Kd.R_mono HO708.out (fun _ hk=> ⟨hk.1.1.1.2,⟨hk.1.2,⟨hk.1.1.2,hk.2⟩⟩⟩)⟩,⟨by (with_reducible repeat (first|apply Kd.R_alloc|apply Kd.R_drewN|apply Kd.R_drew));exact Kd.R_mono HO715.out (fun _ hk=> ⟨hk.1.1.1.2,⟨hk.1.1.2,⟨hk.1.2,hk.2⟩⟩⟩)⟩,⟨by (with_reducible repeat (first|apply bN|apply bd|apply bA));exact BK687.out⟩,⟨by (with_reducible repeat (first|apply bN|apply bd|apply bA));exact BK704.out⟩,⟨by (with_reducible repeat (first|apply bN|apply bd|apply bA));exact BK705.out⟩,⟨by (with_reducible repeat (first|apply bN|apply bd|apply bA));exact BK712.out⟩,⟨by (with_reducible repeat (first|apply bN|apply bd|apply bA));exact BK722.out⟩,⟨by (with_reducible repeat (first|apply bN|apply bd|apply bA));exact BK723.out⟩,⟨by repeat (first|(with_reducible first|exact HB.out|apply below_alloc|apply pw_below_drewN|apply below_drew1|refine below_set ?_ GE687.out|refine below_set ?_ GE704.out|refine below_set ?_ GE705.out|refine below_set ?_ GE712.out|refine below_set ?_ GE722.out|refine below_set ?_ GE723.out)|exact HB.out)⟩⟩
        · replace c53:=Bool.eq_false_iff.mpr c53
          subst c53
          have H1:(none)=some r:=by rw [if_neg (show ¬ (false=true) by decide)] at H;exact H
          clear H
          have H:=H1
          clear H1
          exact absurd H (by simp)
      · replace c51:=Bool.eq_false_iff.mpr c51
        subst c51
        have H1:(none)=some r:=by rw [if_neg (show ¬ (false=true) by decide)] at H;exact H
        clear H
        have H:=H1
        clear H1
        exact absurd H (by simp)
    case rest=>
      clear HC11
      try clear c1
      try clear c2
      try clear p2
      try clear c3
      try clear c3b0
      try clear c4
      try clear c5
      try clear c6
      try clear c7
      try clear c18
      try clear c22
      try clear c23
      try clear c25
      try clear c31
      try clear c32
      try clear c33
      try clear c36
      try clear c39
      try clear c40
      try clear c41
      try clear c42
      try clear c43
      try clear c45
      try clear c46
      try clear c47
      try clear c48
      try clear c51
      try clear c53
      try clear c54
      try clear c55
      try clear c56
      try clear c57
      try clear c58
      try clear c60
      try clear c61
      try clear c62
      try clear c63
      try clear c66
      try clear c67
      try clear c68
      try clear c69
      try clear c70
      try clear c71
      try clear hcz13_0
      try clear hcz13_1
      try clear hcz13_2
      try clear hcz13_3
      try clear hcz15_0
      try clear hcz15_1
      try clear hcz15_2
      try clear hcz15_3
      try clear hcz24_0
      try clear hcz24_1
      try clear hcz24_2
      try clear hcz24_3
      try clear hcz26_0
      try clear hcz26_1
      try clear hcz27_0
      try clear hcz27_1
      try clear hcz27_2
      try clear hcz27_3
      try clear hcz34_0
      try clear hcz34_1
      try clear hcz34_2
      try clear hcz34_3
      try clear hcz44_0
      try clear hcz44_1
      try clear hcz44_2
      try clear hcz44_3
      try clear hcz49_0
      try clear hcz49_1
      try clear hcz59_0
      try clear hcz59_1
      try clear hcz59_2
      try clear hcz59_3
      try clear hcz5_0
      try clear hcz5_1
      try clear hcz5_2
      try clear hcz5_3
      try clear hcz64_0
      try clear hcz64_1
      try clear hcz64_2
      try clear hcz64_3
      try clear hcz69_0
      try clear hcz69_1
      try clear hcz72_0
      try clear hcz72_1
      try clear hfz13_0
      try clear hfz13_1
      try clear hfz13_2
      try clear hfz13_3
      try clear hfz15_0
      try clear hfz15_1
      try clear hfz15_2
      try clear hfz15_3
      try clear hfz24_0
      try clear hfz24_1
      try clear hfz24_2
      try clear hfz24_3
      try clear hfz26_0
      try clear hfz26_1
      try clear hfz27_0
      try clear hfz27_1
      try clear hfz27_2
      try clear hfz27_3
      try clear hfz34_0
      try clear hfz34_1
      try clear hfz34_2
      try clear hfz34_3
      try clear hfz44_0
      try clear hfz44_1
      try clear hfz44_2
      try clear hfz44_3
      try clear hfz49_0
      try clear hfz49_1
      try clear hfz59_0
      try clear hfz59_1
      try clear hfz59_2
      try clear hfz59_3
      try clear hfz5_0
      try clear hfz5_1
      try clear hfz5_2
      try clear hfz5_3
      try clear hfz64_0
      try clear hfz64_1
      try clear hfz64_2
      try clear hfz64_3
      try clear hfz69_0
      try clear hfz69_1
      try clear hfz72_0
      try clear hfz72_1
      obtain ⟨kq,x51_10,rfl,HA,HJ10,HO_705000,HO_713000,HO_723000,BK687,BK704,BK705,BK712,BK722,BK723,HB⟩:=hcut
      cases kq with
      |zero=> exact absurd HA.out (by simp [laws_FnExactTakeOne.j0])
      |succ kj10=>
        have H:=HA.out
        clear HA
        simp only [laws_FnExactTakeOne.j0] at H
        by_cases c74:x51_10=true
        · subst c74
          have H1:(none)=some r:=by rw [if_pos rfl] at H;exact H
          clear H
          have H:=H1
          clear H1
          exact absurd H (by simp)
        · replace c74:=Bool.eq_false_iff.mpr c74
          subst c74
          have H1:((laws_toSource.f kj10 l0_0 a0_1 a0_2 a0_3).bind fun bt726=> ((laws_eqSource.f kj10 t706 t709 t710 t711 bt726.1 bt726.2.1 bt726.2.2.1 bt726.2.2.2).bind fun t732=> (if t732=true then ((laws_markSource.f kj10 t706 t709 t710 t711 1).bind fun bt733=> (if bt733.1 < 0 then (none) else ((laws_eqSource.f kj10 t713 t716 t717 t718 t695 t698 t699 t700).bind fun t735=> (if t735=true then ((laws_eqExt.f t719 t720 t701 t702).bind fun t736=> (if t736=true then (laws_FnExactTakeOne.j1 kj10 t703 (t721 !=t703) l0_0 a0_1 a0_2 a0_3 t695 t698 t699 t700 t701 t702 t713 t716 t717 t718) else (none))) else (none))))) else (none))))=some r:=by rw [if_neg (show ¬ (false=true) by decide)] at H;exact H
          clear H
          have H:=H1
          clear H1
          replace H:=Option.bind_eq_some_iff.mp H
          obtain ⟨⟨t726,t729,t730,t731⟩,A750,H⟩:=H
          replace H:((laws_eqSource.f kj10 t706 t709 t710 t711 t726 t729 t730 t731).bind fun t732=> (if t732=true then ((laws_markSource.f kj10 t706 t709 t710 t711 1).bind fun bt733=> (if bt733.1 < 0 then (none) else ((laws_eqSource.f kj10 t713 t716 t717 t718 t695 t698 t699 t700).bind fun t735=> (if t735=true then ((laws_eqExt.f t719 t720 t701 t702).bind fun t736=> (if t736=true then (laws_FnExactTakeOne.j1 kj10 t703 (t721 !=t703) l0_0 a0_1 a0_2 a0_3 t695 t698 t699 t700 t701 t702 t713 t716 t717 t718) else (none))) else (none))))) else (none)))=some r:=H
          have A75:=Aside0.mk A750
          clear A750
          replace H:=Option.bind_eq_some_iff.mp H
          obtain ⟨t732,A760,H⟩:=H
          replace H:(if t732=true then ((laws_markSource.f kj10 t706 t709 t710 t711 1).bind fun bt733=> (if bt733.1 < 0 then (none) else ((laws_eqSource.f kj10 t713 t716 t717 t718 t695 t698 t699 t700).bind fun t735=> (if t735=true then ((laws_eqExt.f t719 t720 t701 t702).bind fun t736=> (if t736=true then (laws_FnExactTakeOne.j1 kj10 t703 (t721 !=t703) l0_0 a0_1 a0_2 a0_3 t695 t698 t699 t700 t701 t702 t713 t716 t717 t718) else (none))) else (none))))) else (none))=some r:=H
          have A76:=Aside0.mk A760
          clear A760
          by_cases c77:t732=true
          · subst c77
            have H1:((laws_markSource.f kj10 t706 t709 t710 t711 1).bind fun bt733=> (if bt733.1 < 0 then (none) else ((laws_eqSource.f kj10 t713 t716 t717 t718 t695 t698 t699 t700).bind fun t735=> (if t735=true then ((laws_eqExt.f t719 t720 t701 t702).bind fun t736=> (if t736=true then (laws_FnExactTakeOne.j1 kj10 t703 (t721 !=t703) l0_0 a0_1 a0_2 a0_3 t695 t698 t699 t700 t701 t702 t713 t716 t717 t718) else (none))) else (none)))))=some r:=by rw [if_pos rfl] at H;exact H
            clear H
            have H:=H1
            clear H1
            replace H:=Option.bind_eq_some_iff.mp H
            obtain ⟨⟨t733,t734⟩,A780,H⟩:=H
            replace H:(if t733 < 0 then (none) else ((laws_eqSource.f kj10 t713 t716 t717 t718 t695 t698 t699 t700).bind fun t735=> (if t735=true then ((laws_eqExt.f t719 t720 t701 t702).bind fun t736=> (if t736=true then (laws_FnExactTakeOne.j1 kj10 t703 (t721 !=t703) l0_0 a0_1 a0_2 a0_3 t695 t698 t699 t700 t701 t702 t713 t716 t717 t718) else (none))) else (none))))=some r:=H
            have A78:=Aside0.mk A780
            clear A780
            have HC79:=Aside0.mk H
            clear H
            try go_wp2
            have n0_:=Aside0.mk (Kd.R_drew HO_705000.out)
            have n1_:=Aside0.mk (Kd.R_drew HO_713000.out)
            have n2_:=Aside0.mk (Kd.R_drew HO_723000.out)
            have n3_:=Aside0.mk (blk_drew BK687.out)
            have n4_:=Aside0.mk (blk_drew BK704.out)
            have n5_:=Aside0.mk (blk_drew BK705.out)
            have n6_:=Aside0.mk (blk_drew BK712.out)
            have n7_:=Aside0.mk (blk_drew BK722.out)
            have n8_:=Aside0.mk (blk_drew BK723.out)
            have n9_:=Aside0.mk (below_drew1 HB.out)
            clear HO_705000
            clear HO_713000
            clear HO_723000
            clear BK687
            clear BK704
            clear BK705
            clear BK712
            clear BK722
            clear BK723
            clear HB
            have HO_705000:=n0_
            have HO_713000:=n1_
            have HO_723000:=n2_
            have BK687:=n3_
            have BK704:=n4_
            have BK705:=n5_
            have BK712:=n6_
            have BK722:=n7_
            have BK723:=n8_
            have HB:=n9_
            clear n0_ n1_ n2_ n3_ n4_ n5_ n6_ n7_ n8_ n9_
            refine start_ (n:=5) (S:=fun w'=> w'.cell? ⟨gb712,0,none⟩=some (.slice Ao30 t706.length co30) ∧ w'.cell? ⟨gb712,1,none⟩=some (.int .i64 t709) ∧ w'.cell? ⟨gb712,2,none⟩=some (.string t710) ∧ w'.cell? ⟨gb712,3,none⟩=some (.int .i64 t711) ∧ w'.cell? ⟨gb687,0,none⟩=some (.slice A0_0 l0_0.length c0_0) ∧ w'.cell? ⟨gb687,1,none⟩=some (.int .i64 a0_1) ∧ w'.cell? ⟨gb687,2,none⟩=some (.string a0_2) ∧ w'.cell? ⟨gb687,3,none⟩=some (.int .i64 a0_3)) (ds:= []) #[false,false,false,false,false] (by kernel_rfl) rfl rfl ⟨(blk_cell BK712.out 0).trans rfl,(blk_cell BK712.out 1).trans rfl,(blk_cell BK712.out 2).trans rfl,(blk_cell BK712.out 3).trans rfl,(blk_cell BK687.out 0).trans rfl,(blk_cell BK687.out 1).trans rfl,(blk_cell BK687.out 2).trans rfl,(blk_cell BK687.out 3).trans rfl⟩ (fun hHeld=> ?_)
            generalize wc.drew=w80 at HO_705000 HO_713000 HO_723000 BK687 BK704 BK705 BK712 BK722 BK723 HB hHeld ⊢
            refine take_ (i:=0) (N:=some 52) (v:=?_) (a':=?_) #[true,false,false,false,false] rfl rfl (by kernel_rfl) (fun _ _ _ h=> h) (Or.inl ⟨by rfl,?_⟩) hHeld ?_ ?_
            rotate_left
            · rintro w' ⟨s0,s1,s2,s3,s4,s5,s6,s7⟩
              go_simp
              with_reducible rfl
            rotate_left
            · simp only [Act.put,List.setIfInBounds_toArray,List.set_cons_zero,List.set_cons_succ,i64_w,i32_w]
              rfl
            refine take_ (i:=1) (N:=some 53) (v:=?_) (a':=?_) #[true,true,false,false,false] rfl rfl (by kernel_rfl) (fun _ _ _ h=> h) (Or.inl ⟨by rfl,?_⟩) hHeld ?_ ?_
            rotate_left
            · rintro w' ⟨s0,s1,s2,s3,s4,s5,s6,s7⟩
              go_simp
              with_reducible rfl
            rotate_left
            · simp only [Act.put,List.setIfInBounds_toArray,List.set_cons_zero,List.set_cons_succ,i64_w,i32_w]
              rfl
            refine one_ (i:=2) (N:=some 54) #[true,true,true,false,false] rfl rfl (by kernel_rfl) (by decide) (fun K hK=> ?_)
            refine goes_ Try.func55 (by kernel_rfl) rfl #[.agg #[.slice A0_0 l0_0.length c0_0,.int .i64 a0_1,.string a0_2,.int .i64 a0_3]] (by rfl) rfl rfl (by (try simp only [List.map_toArray,List.map_cons,List.map_nil]);first|done|rfl|(simp only [List.length_drop,List.length_take];rfl)) ?_
            with_reducible refine (laws_toSource.calls kj10 _ _ l0_0 a0_1 a0_2 a0_3 t726 t729 t730 t731 _ ?side1 ?side2 A75.out).mono ?_
            (case side1=> repeat (first|exact (Kd.C_below HR0_0.out HB.out)|(with_reducible refine Kd.C_alloc ?_ _)|(with_reducible refine Kd.C_drewN ?_ _)|(with_reducible refine Kd.C_drew ?_)))
            (case side2=> exact HC0_0.out)
            rintro e w81 ⟨v727,rfl,ho0,hb⟩
            refine ⟨_,rfl,?_⟩
            have n0_:=Aside0.mk (Kd.R_elder' (by (with_reducible repeat (first|apply Kd.R_alloc|apply Kd.R_drewN|apply Kd.R_drew));exact HO_705000.out) (Kd.R_base ho0) hb)
            have n1_:=Aside0.mk (Kd.R_elder' (by (with_reducible repeat (first|apply Kd.R_alloc|apply Kd.R_drewN|apply Kd.R_drew));exact HO_713000.out) (Kd.R_base ho0) hb)
            have n2_:=Aside0.mk (Kd.R_elder' (by (with_reducible repeat (first|apply Kd.R_alloc|apply Kd.R_drewN|apply Kd.R_drew));exact HO_723000.out) (Kd.R_base ho0) hb)
            have n3_:=Aside0.mk (Kd.R_lower (Kd.R_newB (Kd.R_newB (Kd.R_new' (Kd.R_new' (Kd.R_new' ho0 (Kd.R_lt (by (with_reducible repeat (first|apply Kd.R_alloc|apply Kd.R_drewN|apply Kd.R_drew));exact HO_705000.out))) (Kd.R_lt (by (with_reducible repeat (first|apply Kd.R_alloc|apply Kd.R_drewN|apply Kd.R_drew));exact HO_713000.out))) (Kd.R_lt (by (with_reducible repeat (first|apply Kd.R_alloc|apply Kd.R_drewN|apply Kd.R_drew));exact HO_723000.out))) (g:=gb705) (o:= .cells #[.int .i64 t701,.int .i64 t702] 79 (0,0)) (by (with_reducible repeat (first|apply bN|apply bd|apply bA));exact BK705.out)) (g:=gb723) (o:= .cells #[.int .i64 t719,.int .i64 t720] 79 (0,0)) (by (with_reducible repeat (first|apply bN|apply bd|apply bA));exact BK723.out)) (below_size (by repeat (first|(with_reducible first|exact HB.out|apply below_alloc|apply pw_below_drewN|apply below_drew1|refine below_set ?_ GE687.out|refine below_set ?_ GE704.out|refine below_set ?_ GE705.out|refine below_set ?_ GE712.out|refine below_set ?_ GE722.out|refine below_set ?_ GE723.out)|exact HB.out))))
            have n4_:=Aside0.mk (blk_below (g:=gb687) (o:= .cells #[.slice A0_0 l0_0.length c0_0,.int .i64 a0_1,.string a0_2,.int .i64 a0_3] 61 (0,0)) (by (with_reducible repeat (first|apply bN|apply bd|apply bA));exact BK687.out) hb)
            have n5_:=Aside0.mk (blk_below (g:=gb704) (o:= .cells #[.slice Ao21 t695.length co21,.int .i64 t698,.string t699,.int .i64 t700] 36 (0,0)) (by (with_reducible repeat (first|apply bN|apply bd|apply bA));exact BK704.out) hb)
            have n6_:=Aside0.mk (blk_below (g:=gb705) (o:= .cells #[.int .i64 t701,.int .i64 t702] 79 (0,0)) (by (with_reducible repeat (first|apply bN|apply bd|apply bA));exact BK705.out) hb)
            have n7_:=Aside0.mk (blk_below (g:=gb712) (o:= .cells #[.slice Ao30 t706.length co30,.int .i64 t709,.string t710,.int .i64 t711] 36 (0,0)) (by (with_reducible repeat (first|apply bN|apply bd|apply bA));exact BK712.out) hb)
            have n8_:=Aside0.mk (blk_below (g:=gb722) (o:= .cells #[.slice Ao38 t713.length co38,.int .i64 t716,.string t717,.int .i64 t718] 36 (0,0)) (by (with_reducible repeat (first|apply bN|apply bd|apply bA));exact BK722.out) hb)
            have n9_:=Aside0.mk (blk_below (g:=gb723) (o:= .cells #[.int .i64 t719,.int .i64 t720] 79 (0,0)) (by (with_reducible repeat (first|apply bN|apply bd|apply bA));exact BK723.out) hb)
            have n10_:=Aside0.mk (below_step (by repeat (first|(with_reducible first|exact HB.out|apply below_alloc|apply pw_below_drewN|apply below_drew1|refine below_set ?_ GE687.out|refine below_set ?_ GE704.out|refine below_set ?_ GE705.out|refine below_set ?_ GE712.out|refine below_set ?_ GE722.out|refine below_set ?_ GE723.out)|exact HB.out)) hb)
            clear HO_705000
            clear HO_713000
            clear HO_723000
            clear BK687
            clear BK704
            clear BK705
            clear BK712
            clear BK722
            clear BK723
            clear HB
            have HO_705000:=n0_
            have HO_713000:=n1_
            have HO_723000:=n2_
            have HO728:=n3_
            have BK687:=n4_
            have BK704:=n5_
            have BK705:=n6_
            have BK712:=n7_
            have BK722:=n8_
            have BK723:=n9_
            have HB:=n10_
            clear n0_ n1_ n2_ n3_ n4_ n5_ n6_ n7_ n8_ n9_ n10_
            (try clear hb)
            (try clear hb2)
            (try clear hk)
            (try clear hi)
            (try clear ho0)
            obtain ⟨Ao82,co82,eo82⟩:=Kd.R_slice HO728.out
            (first|subst eo82|(injection eo82 with f1_ f2_ f3_;have f4_:=f1_.symm;have f5_:=f3_.symm;clear f1_ f2_ f3_;subst f4_;subst f5_))
            refine hK.out _ _ ⟨(blk_cell BK712.out 0).trans rfl,(blk_cell BK712.out 1).trans rfl,(blk_cell BK712.out 2).trans rfl,(blk_cell BK712.out 3).trans rfl,(blk_cell BK687.out 0).trans rfl,(blk_cell BK687.out 1).trans rfl,(blk_cell BK687.out 2).trans rfl,(blk_cell BK687.out 3).trans rfl⟩ (fun hHeld=> ?_)
            clear hK K
            refine norm_ (a':=?_) ?_ ?_
            rotate_left
            · show Act.put _ (some 54) _=_
              simp only [Act.put,List.setIfInBounds_toArray,List.set_cons_zero,List.set_cons_succ,i64_w,i32_w]
              rfl
            refine one_ (i:=3) (N:=some 55) #[true,true,true,true,false] rfl rfl (by kernel_rfl) (by decide) (fun K hK=> ?_)
            refine goes_ Try.func36 (by kernel_rfl) rfl #[.agg #[.slice Ao30 t706.length co30,.int .i64 t709,.string t710,.int .i64 t711],.agg #[.slice Ao82 t726.length co82,.int .i64 t729,.string t730,.int .i64 t731]] (by rfl) rfl rfl (by (try simp only [List.map_toArray,List.map_cons,List.map_nil]);first|done|rfl|(simp only [List.length_drop,List.length_take];rfl)) ?_
            with_reducible refine (laws_eqSource.calls kj10 _ _ t706 t709 t710 t711 _ _ t726 t729 t730 t731 true _ ?side1 ?side2 ?side3 ?side4 A76.out).mono ?_
            (case side1=> repeat (first|exact (Kd.R_reads' HO_713000.out).2.2|(with_reducible refine Kd.C_alloc ?_ _)|(with_reducible refine Kd.C_drewN ?_ _)|(with_reducible refine Kd.C_drew ?_)))
            (case side2=> exact (Kd.R_reads' HO_713000.out).2.1)
            (case side3=> repeat (first|exact (Kd.R_reads' HO728.out).2.2|(with_reducible refine Kd.C_alloc ?_ _)|(with_reducible refine Kd.C_drewN ?_ _)|(with_reducible refine Kd.C_drew ?_)))
            (case side4=> exact (Kd.R_reads' HO728.out).2.1)
            rintro e w83 ⟨rfl,hb⟩
            refine ⟨_,rfl,?_⟩
            have n0_:=Aside0.mk (Kd.R_below (by (with_reducible repeat (first|apply Kd.R_alloc|apply Kd.R_drewN|apply Kd.R_drew));exact HO_705000.out) hb)
            have n1_:=Aside0.mk (Kd.R_below (by (with_reducible repeat (first|apply Kd.R_alloc|apply Kd.R_drewN|apply Kd.R_drew));exact HO_713000.out) hb)
            have n2_:=Aside0.mk (Kd.R_below (by (with_reducible repeat (first|apply Kd.R_alloc|apply Kd.R_drewN|apply Kd.R_drew));exact HO_723000.out) hb)
            have n3_:=Aside0.mk (Kd.R_below (by (with_reducible repeat (first|apply Kd.R_alloc|apply Kd.R_drewN|apply Kd.R_drew));exact HO728.out) hb)
            have n4_:=Aside0.mk (blk_below (g:=gb687) (o:= .cells #[.slice A0_0 l0_0.length c0_0,.int .i64 a0_1,.string a0_2,.int .i64 a0_3] 61 (0,0)) (by (with_reducible repeat (first|apply bN|apply bd|apply bA));exact BK687.out) hb)
            have n5_:=Aside0.mk (blk_below (g:=gb704) (o:= .cells #[.slice Ao21 t695.length co21,.int .i64 t698,.string t699,.int .i64 t700] 36 (0,0)) (by (with_reducible repeat (first|apply bN|apply bd|apply bA));exact BK704.out) hb)
            have n6_:=Aside0.mk (blk_below (g:=gb705) (o:= .cells #[.int .i64 t701,.int .i64 t702] 79 (0,0)) (by (with_reducible repeat (first|apply bN|apply bd|apply bA));exact BK705.out) hb)
            have n7_:=Aside0.mk (blk_below (g:=gb712) (o:= .cells #[.slice Ao30 t706.length co30,.int .i64 t709,.string t710,.int .i64 t711] 36 (0,0)) (by (with_reducible repeat (first|apply bN|apply bd|apply bA));exact BK712.out) hb)
            have n8_:=Aside0.mk (blk_below (g:=gb722) (o:= .cells #[.slice Ao38 t713.length co38,.int .i64 t716,.string t717,.int .i64 t718] 36 (0,0)) (by (with_reducible repeat (first|apply bN|apply bd|apply bA));exact BK722.out) hb)
            have n9_:=Aside0.mk (blk_below (g:=gb723) (o:= .cells #[.int .i64 t719,.int .i64 t720] 79 (0,0)) (by (with_reducible repeat (first|apply bN|apply bd|apply bA));exact BK723.out) hb)
            have n10_:=Aside0.mk (below_step (by repeat (first|(with_reducible first|exact HB.out|apply below_alloc|apply pw_below_drewN|apply below_drew1|refine below_set ?_ GE687.out|refine below_set ?_ GE704.out|refine below_set ?_ GE705.out|refine below_set ?_ GE712.out|refine below_set ?_ GE722.out|refine below_set ?_ GE723.out)|exact HB.out)) hb)
            clear HO_705000
            clear HO_713000
            clear HO_723000
            clear HO728
            clear BK687
            clear BK704
            clear BK705
            clear BK712
            clear BK722
            clear BK723
            clear HB
            have HO_705000:=n0_
            have HO_713000:=n1_
            have HO_723000:=n2_
            have HO728:=n3_
            have BK687:=n4_
            have BK704:=n5_
            have BK705:=n6_
            have BK712:=n7_
            have BK722:=n8_
            have BK723:=n9_
            have HB:=n10_
            clear n0_ n1_ n2_ n3_ n4_ n5_ n6_ n7_ n8_ n9_ n10_
            (try clear hb)
            (try clear hb2)
            (try clear hk)
            (try clear hi)
            refine hK.out _ _ ⟨(blk_cell BK712.out 0).trans rfl,(blk_cell BK712.out 1).trans rfl,(blk_cell BK712.out 2).trans rfl,(blk_cell BK712.out 3).trans rfl,(blk_cell BK687.out 0).trans rfl,(blk_cell BK687.out 1).trans rfl,(blk_cell BK687.out 2).trans rfl,(blk_cell BK687.out 3).trans rfl⟩ (fun hHeld=> ?_)
            clear hK K
            refine norm_ (a':=?_) ?_ ?_
            rotate_left
            · show Act.put _ (some 55) _=_
              simp only [Act.put,List.setIfInBounds_toArray,List.set_cons_zero,List.set_cons_succ,i64_w,i32_w]
              rfl
            refine pure_ (i:=4) (N:=some 56) (v:=?_) (a':=?_) #[true,true,true,true,true] rfl rfl (by kernel_rfl) (fun _ _ _ h=> h) (Or.inl ⟨by rfl,?_⟩) ?_ ?_
            rotate_left
            · intro w'
              go_simp
              with_reducible rfl
            rotate_left
            · simp only [Act.put,List.setIfInBounds_toArray,List.set_cons_zero,List.set_cons_succ,i64_w,i32_w]
              rfl
            refine done_ (by kernel_rfl) ?_
            have hnb84:=NB712_687.out
            have hnc84:=NB687_712.out
            have hnb85:=NB712_704.out
            have hnc85:=NB704_712.out
            have hnb86:=NB712_705.out
            have hnc86:=NB705_712.out
            have hnb87:=NB712_722.out
            have hnc87:=NB722_712.out
            have hnb88:=NB712_723.out
            have hnc88:=NB723_712.out
            have hcz89_0:w83.cell? ⟨gb712,0,none⟩=some (.slice Ao30 t706.length co30):=(blk_cell BK712.out 0).trans rfl
            have hcz89_1:w83.cell? ⟨gb712,1,none⟩=some (.int .i64 t709):=(blk_cell BK712.out 1).trans rfl
            have hcz89_2:w83.cell? ⟨gb712,2,none⟩=some (.string t710):=(blk_cell BK712.out 2).trans rfl
            have hcz89_3:w83.cell? ⟨gb712,3,none⟩=some (.int .i64 t711):=(blk_cell BK712.out 3).trans rfl
            have hfz89_0:=blk_frozen BK712.out 0
            have hfz89_1:=blk_frozen BK712.out 1
            have hfz89_2:=blk_frozen BK712.out 2
            have hfz89_3:=blk_frozen BK712.out 3
            go_upto_region 14 with (first|((with_reducible refine gate_callee (f:=37) rfl ?_);refine goesL_ (some 59) rfl rfl Try.func37 (by kernel_rfl) rfl #[.agg #[.slice Ao30 t706.length co30,.int .i64 t709,.string t710,.int .i64 t711],.int .i64 1] rfl (by (try simp only [List.map_toArray,List.map_cons,List.map_nil]);first|done|rfl|(simp only [List.length_drop,List.length_take];rfl)) ?_;(with_reducible refine (laws_markSource.calls kj10 (fun k_=> some k_=(.slice Ao30 t706.length co30:Value).ownBlock) (.slice Ao30 t706.length co30) t706 t709 t710 t711 1 t733 t734 w _ ?side1 ?side2 A78.out).mono ?_);(case side1=> repeat (first|(with_reducible first|exact HB.out|apply below_alloc|apply pw_below_drewN|apply below_drew1|refine below_set ?_ GE687.out|refine below_set ?_ GE704.out|refine below_set ?_ GE705.out|refine below_set ?_ GE712.out|refine below_set ?_ GE722.out|refine below_set ?_ GE723.out)|exact HB.out));(case side2=> exact Kd.R_tight rfl HO_713000.out);rintro e w90 ⟨rfl,hy0,hb,hkp⟩;refine ⟨_,rfl,?_⟩;have n0_:=Aside0.mk (Kd.R_mono (ok':=fun k_=> some k_ ≠ (.slice Ao30 t706.length co30:Value).ownBlock ∧ some k_ ≠ (.slice Ao38 t713.length co38:Value).ownBlock ∧ some k_ ≠ (.slice Ao82 t726.length co82:Value).ownBlock ∧ k_ ≠ gb705 ∧ k_ ≠ gb723) (Kd.R_keptB (HO_705000.out) hkp (fun k_ hk_ hs_=> (hk_.1.1) hs_)) (fun k_ hk_=> ⟨hk_.1.1.1,hk_.1.1.2.1,hk_.1.2,hk_.1.1.2.2.1,hk_.1.1.2.2.2⟩));have n1_:=Aside0.mk (Kd.R_reok rfl hy0 (fun k_ e_=> HO_713000.out.1 k_ e_));have n2_:=Aside0.mk (Kd.R_mono (ok':=fun k_=> some k_ ≠ (.slice Ao21 t695.length co21:Value).ownBlock ∧ some k_ ≠ (.slice Ao30 t706.length co30:Value).ownBlock ∧ some k_ ≠ (.slice Ao82 t726.length co82:Value).ownBlock ∧ k_ ≠ gb705 ∧ k_ ≠ gb723) (Kd.R_keptB (HO_723000.out) hkp (fun k_ hk_ hs_=> (hk_.1.2.1) hs_)) (fun k_ hk_=> ⟨hk_.1.1.1,hk_.1.1.2.1,hk_.1.2,hk_.1.1.2.2.1,hk_.1.1.2.2.2⟩));have n3_:=Aside0.mk (blk_kept (by (with_reducible repeat (first|apply bN|apply bd|apply bA));exact BK687.out) hkp (fun hs_=> (fun e_=> (Kd.R_ne HO_713000.out BK687.out (by decide)) e_) hs_));have n4_:=Aside0.mk (blk_kept (by (with_reducible repeat (first|apply bN|apply bd|apply bA));exact BK704.out) hkp (fun hs_=> (fun e_=> (Kd.R_ne HO_713000.out BK704.out (by decide)) e_) hs_));have n5_:=Aside0.mk (blk_kept (by (with_reducible repeat (first|apply bN|apply bd|apply bA));exact BK705.out) hkp (fun hs_=> (fun e_=> (Kd.R_away HO_713000.out (fun _ hk=> hk.1.2.2.1)) e_) hs_));have n6_:=Aside0.mk (blk_kept (by (with_reducible repeat (first|apply bN|apply bd|apply bA));exact BK712.out) hkp (fun hs_=> (fun e_=> (Kd.R_ne HO_713000.out BK712.out (by decide)) e_) hs_));have n7_:=Aside0.mk (blk_kept (by (with_reducible repeat (first|apply bN|apply bd|apply bA));exact BK722.out) hkp (fun hs_=> (fun e_=> (Kd.R_ne HO_713000.out BK722.out (by decide)) e_) hs_));have n8_:=Aside0.mk (blk_kept (by (with_reducible repeat (first|apply bN|apply bd|apply bA));exact BK723.out) hkp (fun hs_=> (fun e_=> (Kd.R_away HO_713000.out (fun _ hk=> hk.1.2.2.2)) e_) hs_));have n9_:=Aside0.mk (Kd.R_mono (ok':=fun k_=> some k_ ≠ (.slice Ao21 t695.length co21:Value).ownBlock ∧ some k_ ≠ (.slice Ao30 t706.length co30:Value).ownBlock ∧ some k_ ≠ (.slice Ao38 t713.length co38:Value).ownBlock ∧ k_ ≠ gb705 ∧ k_ ≠ gb723) (Kd.R_keptB (HO728.out) hkp (fun k_ hk_ hs_=> (hk_.1.1.1.2) hs_)) (fun k_ hk_=> ⟨hk_.1.1.1.1.1.2,hk_.1.1.1.1.2,hk_.1.1.1.2,hk_.1.1.2,hk_.1.2⟩));have n10_:=Aside0.mk (hb);clear HO_705000;clear HO_713000;clear HO_723000;clear BK687;clear BK704;clear BK705;clear BK712;clear BK722;clear BK723;clear HO728;clear HB;have HO_705000:=n0_;have HO_713000:=n1_;have HO_723000:=n2_;have BK687:=n3_;have BK704:=n4_;have BK705:=n5_;have BK712:=n6_;have BK722:=n7_;have BK723:=n8_;have HO728:=n9_;have HB:=n10_;clear n0_ n1_ n2_ n3_ n4_ n5_ n6_ n7_ n8_ n9_ n10_;(try clear hb);(try clear hkp);(try clear hy0)))
            (try simp only [Act.put,List.setIfInBounds_toArray,List.set_cons_zero,List.set_cons_succ])
            go_cut [78] (fun v78 wc=> ∃ (kq:Nat) (x78_78:Bool),v78= .bool x78_78 ∧ Aside0 (laws_FnExactTakeOne.j1 kq t703 x78_78 l0_0 a0_1 a0_2 a0_3 t695 t698 t699 t700 t701 t702 t713 t716 t717 t718=some r) ∧ Aside0 (kq ≤ kj10) ∧ Aside0 (Kd.R k79 79 wc w.heap.size (fun k_=> some k_ ≠ ((.slice Ao30 t706.length co30):Value).ownBlock ∧ some k_ ≠ ((.slice Ao38 t713.length co38):Value).ownBlock ∧ k_ ≠ gb705 ∧ k_ ≠ gb723) (.slice Ao21 t695.length co21) t695) ∧ Aside0 (Kd.R k79 79 wc w.heap.size (fun k_=> some k_ ≠ ((.slice Ao21 t695.length co21):Value).ownBlock ∧ some k_ ≠ ((.slice Ao38 t713.length co38):Value).ownBlock ∧ k_ ≠ gb705 ∧ k_ ≠ gb723) (.slice Ao30 t706.length co30) t734) ∧ Aside0 (Kd.R k79 79 wc w.heap.size (fun k_=> some k_ ≠ ((.slice Ao21 t695.length co21):Value).ownBlock ∧ some k_ ≠ ((.slice Ao30 t706.length co30):Value).ownBlock ∧ k_ ≠ gb705 ∧ k_ ≠ gb723) (.slice Ao38 t713.length co38) t713) ∧ Aside0 (wc.heap[gb687]?=some (.cells #[(.slice A0_0 l0_0.length c0_0),.int .i64 a0_1,.string a0_2,.int .i64 a0_3] 61 (0,0))) ∧ Aside0 (wc.heap[gb704]?=some (.cells #[(.slice Ao21 t695.length co21),.int .i64 t698,.string t699,.int .i64 t700] 36 (0,0))) ∧ Aside0 (wc.heap[gb705]?=some (.cells #[.int .i64 t701,.int .i64 t702] 79 (0,0))) ∧ Aside0 (wc.heap[gb712]?=some (.cells #[(.slice Ao30 t706.length co30),.int .i64 t709,.string t710,.int .i64 t711] 36 (0,0))) ∧ Aside0 (wc.heap[gb722]?=some (.cells #[(.slice Ao38 t713.length co38),.int .i64 t716,.string t717,.int .i64 t718] 36 (0,0))) ∧ Aside0 (wc.heap[gb723]?=some (.cells #[.int .i64 t719,.int .i64 t720] 79 (0,0))) ∧ Aside0 (Below w.heap.size w wc))
            case first=>
              have H:=HC79.out
              clear HC79
              by_cases c91:t733 < 0
              · rw [if_pos c91] at H
                exact absurd H (by simp)
              · rw [if_neg c91] at H
                have c91b0:decide (t733 < 0)=false:=decide_eq_false c91
                clear c91
                (first|rw [c91b0]|(simp only [i64_w,i32_w];rw [c91b0])|skip)
                replace H:=Option.bind_eq_some_iff.mp H
                obtain ⟨t735,A920,H⟩:=H
                replace H:(if t735=true then ((laws_eqExt.f t719 t720 t701 t702).bind fun t736=> (if t736=true then (laws_FnExactTakeOne.j1 kj10 t703 (t721 !=t703) l0_0 a0_1 a0_2 a0_3 t695 t698 t699 t700 t701 t702 t713 t716 t717 t718) else (none))) else (none))=some r:=H
                have A92:=Aside0.mk A920
                clear A920
                by_cases c93:t735=true
                · subst c93
                  have H1:((laws_eqExt.f t719 t720 t701 t702).bind fun t736=> (if t736=true then (laws_FnExactTakeOne.j1 kj10 t703 (t721 !=t703) l0_0 a0_1 a0_2 a0_3 t695 t698 t699 t700 t701 t702 t713 t716 t717 t718) else (none)))=some r:=by rw [if_pos rfl] at H;exact H
                  clear H
                  have H:=H1
                  clear H1
                  replace H:=Option.bind_eq_some_iff.mp H
                  obtain ⟨t736,A940,H⟩:=H
                  replace H:(if t736=true then (laws_FnExactTakeOne.j1 kj10 t703 (t721 !=t703) l0_0 a0_1 a0_2 a0_3 t695 t698 t699 t700 t701 t702 t713 t716 t717 t718) else (none))=some r:=H
                  have A94:=Aside0.mk A940
                  clear A940
                  by_cases c95:t736=true
                  · subst c95
                    have H1:(laws_FnExactTakeOne.j1 kj10 t703 (t721 !=t703) l0_0 a0_1 a0_2 a0_3 t695 t698 t699 t700 t701 t702 t713 t716 t717 t718)=some r:=by rw [if_pos rfl] at H;exact H
                    clear H
                    have H:=H1
                    clear H1
                    have H':=Aside0.mk H
                    clear H
                    have hnb96:=NB722_687.out
                    have hnc96:=NB687_722.out
                    have hnb97:=NB722_704.out
                    have hnc97:=NB704_722.out
                    have hnb98:=NB722_705.out
                    have hnc98:=NB705_722.out
                    have hnb99:=NB722_712.out
                    have hnc99:=NB712_722.out
                    have hnb100:=NB722_723.out
                    have hnc100:=NB723_722.out
                    have hcz101_0:w90.cell? ⟨gb722,0,none⟩=some (.slice Ao38 t713.length co38):=(blk_cell BK722.out 0).trans rfl
                    have hcz101_1:w90.cell? ⟨gb722,1,none⟩=some (.int .i64 t716):=(blk_cell BK722.out 1).trans rfl
                    have hcz101_2:w90.cell? ⟨gb722,2,none⟩=some (.string t717):=(blk_cell BK722.out 2).trans rfl
                    have hcz101_3:w90.cell? ⟨gb722,3,none⟩=some (.int .i64 t718):=(blk_cell BK722.out 3).trans rfl
                    have hfz101_0:=blk_frozen BK722.out 0
                    have hfz101_1:=blk_frozen BK722.out 1
                    have hfz101_2:=blk_frozen BK722.out 2
                    have hfz101_3:=blk_frozen BK722.out 3
                    have hnb102:=NB704_687.out
                    have hnc102:=NB687_704.out
                    have hnb103:=NB704_705.out
                    have hnc103:=NB705_704.out
                    have hnb104:=NB704_712.out
                    have hnc104:=NB712_704.out
                    have hnb105:=NB704_723.out
                    have hnc105:=NB723_704.out
                    have hcz106_0:w90.cell? ⟨gb704,0,none⟩=some (.slice Ao21 t695.length co21):=(blk_cell BK704.out 0).trans rfl
                    have hcz106_1:w90.cell? ⟨gb704,1,none⟩=some (.int .i64 t698):=(blk_cell BK704.out 1).trans rfl
                    have hcz106_2:w90.cell? ⟨gb704,2,none⟩=some (.string t699):=(blk_cell BK704.out 2).trans rfl
                    have hcz106_3:w90.cell? ⟨gb704,3,none⟩=some (.int .i64 t700):=(blk_cell BK704.out 3).trans rfl
                    have hfz106_0:=blk_frozen BK704.out 0
                    have hfz106_1:=blk_frozen BK704.out 1
                    have hfz106_2:=blk_frozen BK704.out 2
                    have hfz106_3:=blk_frozen BK704.out 3
                    go_wp2_with (first|(go_at_call 36;(with_reducible refine (laws_eqSource.calls kj10 _ _ t713 t716 t717 t718 _ _ t695 t698 t699 t700 true _ ?side1 ?side2 ?side3 ?side4 A92.out).mono ?_);(case side1=> repeat (first|exact (Kd.R_reads' HO_723000.out).2.2|(with_reducible refine Kd.C_alloc ?_ _)|(with_reducible refine Kd.C_drewN ?_ _)|(with_reducible refine Kd.C_drew ?_)));(case side2=> exact (Kd.R_reads' HO_723000.out).2.1);(case side3=> repeat (first|exact (Kd.R_reads' HO_705000.out).2.2|(with_reducible refine Kd.C_alloc ?_ _)|(with_reducible refine Kd.C_drewN ?_ _)|(with_reducible refine Kd.C_drew ?_)));(case side4=> exact (Kd.R_reads' HO_705000.out).2.1);rintro e w107 ⟨rfl,hb⟩;have n0_:=Aside0.mk (Kd.R_below (by (with_reducible repeat (first|apply Kd.R_alloc|apply Kd.R_drewN|apply Kd.R_drew));exact HO_705000.out) hb);have n1_:=Aside0.mk (Kd.R_below (by (with_reducible repeat (first|apply Kd.R_alloc|apply Kd.R_drewN|apply Kd.R_drew));exact HO_713000.out) hb);have n2_:=Aside0.mk (Kd.R_below (by (with_reducible repeat (first|apply Kd.R_alloc|apply Kd.R_drewN|apply Kd.R_drew));exact HO_723000.out) hb);have n3_:=Aside0.mk (Kd.R_below (by (with_reducible repeat (first|apply Kd.R_alloc|apply Kd.R_drewN|apply Kd.R_drew));exact HO728.out) hb);have n4_:=Aside0.mk (blk_below (g:=gb687) (o:= .cells #[.slice A0_0 l0_0.length c0_0,.int .i64 a0_1,.string a0_2,.int .i64 a0_3] 61 (0,0)) (by (with_reducible repeat (first|apply bN|apply bd|apply bA));exact BK687.out) hb);have n5_:=Aside0.mk (blk_below (g:=gb704) (o:= .cells #[.slice Ao21 t695.length co21,.int .i64 t698,.string t699,.int .i64 t700] 36 (0,0)) (by (with_reducible repeat (first|apply bN|apply bd|apply bA));exact BK704.out) hb);have n6_:=Aside0.mk (blk_below (g:=gb705) (o:= .cells #[.int .i64 t701,.int .i64 t702] 79 (0,0)) (by (with_reducible repeat (first|apply bN|apply bd|apply bA));exact BK705.out) hb);have n7_:=Aside0.mk (blk_below (g:=gb712) (o:= .cells #[.slice Ao30 t706.length co30,.int .i64 t709,.string t710,.int .i64 t711] 36 (0,0)) (by (with_reducible repeat (first|apply bN|apply bd|apply bA));exact BK712.out) hb);have n8_:=Aside0.mk (blk_below (g:=gb722) (o:= .cells #[.slice Ao38 t713.length co38,.int .i64 t716,.string t717,.int .i64 t718] 36 (0,0)) (by (with_reducible repeat (first|apply bN|apply bd|apply bA));exact BK722.out) hb);have n9_:=Aside0.mk (blk_below (g:=gb723) (o:= .cells #[.int .i64 t719,.int .i64 t720] 79 (0,0)) (by (with_reducible repeat (first|apply bN|apply bd|apply bA));exact BK723.out) hb);have n10_:=Aside0.mk (below_step (by repeat (first|(with_reducible first|exact HB.out|apply below_alloc|apply pw_below_drewN|apply below_drew1|refine below_set ?_ GE687.out|refine below_set ?_ GE704.out|refine below_set ?_ GE705.out|refine below_set ?_ GE712.out|refine below_set ?_ GE722.out|refine below_set ?_ GE723.out)|exact HB.out)) hb);clear HO_705000;clear HO_713000;clear HO_723000;clear HO728;clear BK687;clear BK704;clear BK705;clear BK712;clear BK722;clear BK723;clear HB;have HO_705000:=n0_;have HO_713000:=n1_;have HO_723000:=n2_;have HO728:=n3_;have BK687:=n4_;have BK704:=n5_;have BK705:=n6_;have BK712:=n7_;have BK722:=n8_;have BK723:=n9_;have HB:=n10_;clear n0_ n1_ n2_ n3_ n4_ n5_ n6_ n7_ n8_ n9_ n10_;(try clear hb);(try clear hb2);(try clear hk);(try clear hi);have hnb108:=NB723_687.out;have hnc108:=NB687_723.out;have hnb109:=NB723_705.out;have hnc109:=NB705_723.out;have hnb110:=NB723_712.out;have hnc110:=NB712_723.out;have hcz111_0:w107.cell? ⟨gb723,0,none⟩=some (.int .i64 t719):=(blk_cell BK723.out 0).trans rfl;have hcz111_1:w107.cell? ⟨gb723,1,none⟩=some (.int .i64 t720):=(blk_cell BK723.out 1).trans rfl;have hfz111_0:=blk_frozen BK723.out 0;have hfz111_1:=blk_frozen BK723.out 1;have hnb112:=NB705_687.out;have hnc112:=NB687_705.out;have hnb113:=NB705_712.out;have hnc113:=NB712_705.out;have hcz114_0:w107.cell? ⟨gb705,0,none⟩=some (.int .i64 t701):=(blk_cell BK705.out 0).trans rfl;have hcz114_1:w107.cell? ⟨gb705,1,none⟩=some (.int .i64 t702):=(blk_cell BK705.out 1).trans rfl;have hfz114_0:=blk_frozen BK705.out 0;have hfz114_1:=blk_frozen BK705.out 1)|(go_at_call 71;(with_reducible refine (laws_eqExt.calls t719 t720 t701 t702 true _ A94.out).mono ?_);rintro e w115 ⟨rfl,hb⟩;have n0_:=Aside0.mk (Kd.R_below (by (with_reducible repeat (first|apply Kd.R_alloc|apply Kd.R_drewN|apply Kd.R_drew));exact HO_705000.out) hb);have n1_:=Aside0.mk (Kd.R_below (by (with_reducible repeat (first|apply Kd.R_alloc|apply Kd.R_drewN|apply Kd.R_drew));exact HO_713000.out) hb);have n2_:=Aside0.mk (Kd.R_below (by (with_reducible repeat (first|apply Kd.R_alloc|apply Kd.R_drewN|apply Kd.R_drew));exact HO_723000.out) hb);have n3_:=Aside0.mk (Kd.R_below (by (with_reducible repeat (first|apply Kd.R_alloc|apply Kd.R_drewN|apply Kd.R_drew));exact HO728.out) hb);have n4_:=Aside0.mk (blk_below (g:=gb687) (o:= .cells #[.slice A0_0 l0_0.length c0_0,.int .i64 a0_1,.string a0_2,.int .i64 a0_3] 61 (0,0)) (by (with_reducible repeat (first|apply bN|apply bd|apply bA));exact BK687.out) hb);have n5_:=Aside0.mk (blk_below (g:=gb704) (o:= .cells #[.slice Ao21 t695.length co21,.int .i64 t698,.string t699,.int .i64 t700] 36 (0,0)) (by (with_reducible repeat (first|apply bN|apply bd|apply bA));exact BK704.out) hb);have n6_:=Aside0.mk (blk_below (g:=gb705) (o:= .cells #[.int .i64 t701,.int .i64 t702] 79 (0,0)) (by (with_reducible repeat (first|apply bN|apply bd|apply bA));exact BK705.out) hb);have n7_:=Aside0.mk (blk_below (g:=gb712) (o:= .cells #[.slice Ao30 t706.length co30,.int .i64 t709,.string t710,.int .i64 t711] 36 (0,0)) (by (with_reducible repeat (first|apply bN|apply bd|apply bA));exact BK712.out) hb);have n8_:=Aside0.mk (blk_below (g:=gb722) (o:= .cells #[.slice Ao38 t713.length co38,.int .i64 t716,.string t717,.int .i64 t718] 36 (0,0)) (by (with_reducible repeat (first|apply bN|apply bd|apply bA));exact BK722.out) hb);have n9_:=Aside0.mk (blk_below (g:=gb723) (o:= .cells #[.int .i64 t719,.int .i64 t720] 79 (0,0)) (by (with_reducible repeat (first|apply bN|apply bd|apply bA));exact BK723.out) hb);have n10_:=Aside0.mk (below_step (by repeat (first|(with_reducible first|exact HB.out|apply below_alloc|apply pw_below_drewN|apply below_drew1|refine below_set ?_ GE687.out|refine below_set ?_ GE704.out|refine below_set ?_ GE705.out|refine below_set ?_ GE712.out|refine below_set ?_ GE722.out|refine below_set ?_ GE723.out)|exact HB.out)) hb);clear HO_705000;clear HO_713000;clear HO_723000;clear HO728;clear BK687;clear BK704;clear BK705;clear BK712;clear BK722;clear BK723;clear HB;have HO_705000:=n0_;have HO_713000:=n1_;have HO_723000:=n2_;have HO728:=n3_;have BK687:=n4_;have BK704:=n5_;have BK705:=n6_;have BK712:=n7_;have BK722:=n8_;have BK723:=n9_;have HB:=n10_;clear n0_ n1_ n2_ n3_ n4_ n5_ n6_ n7_ n8_ n9_ n10_;(try clear hb);(try clear hb2);(try clear hk);(try clear hi)))
                    go_meet
                    case rel=> exact ⟨_,((t721 !=t703)),(by first|rfl|(simp;done)|(simp [*];done)),H',⟨by have:=HJ10.out;first|omega|exact Nat.le_refl _⟩,⟨by (with_reducible repeat (first|apply Kd.R_alloc|apply Kd.R_drewN|apply Kd.R_drew));exact Kd.R_mono HO_705000.out (fun _ hk=> ⟨hk.1,⟨hk.2.1,⟨hk.2.2.2.1,hk.2.2.2.2⟩⟩⟩)⟩,⟨by (with_reducible repeat (first|apply Kd.R_alloc|apply Kd.R_drewN|apply Kd.R_drew));exact Kd.R_mono HO_713000.out (fun _ hk=> ⟨hk.1.1,⟨hk.1.2.1,⟨hk.1.2.2.1,hk.1.2.2.2⟩⟩⟩)⟩,⟨by (with_reducible repeat (first|apply Kd.R_alloc|apply Kd.R_drewN|apply Kd.R_drew));exact Kd.R_mono HO_723000.out (fun _ hk=> ⟨hk.1,⟨hk.2.1,⟨hk.2.2.2.1,hk.2.2.2.2⟩⟩⟩)⟩,⟨by (with_reducible repeat (first|apply bN|apply bd|apply bA));exact BK687.out⟩,⟨by (with_reducible repeat (first|apply bN|apply bd|apply bA));exact BK704.out⟩,⟨by (with_reducible repeat (first|apply bN|apply bd|apply bA));exact BK705.out⟩,⟨by (with_reducible repeat (first|apply bN|apply bd|apply bA));exact BK712.out⟩,⟨by (with_reducible repeat (first|apply bN|apply bd|apply bA));exact BK722.out⟩,⟨by (with_reducible repeat (first|apply bN|apply bd|apply bA));exact BK723.out⟩,⟨by repeat (first|(with_reducible first|exact HB.out|apply below_alloc|apply pw_below_drewN|apply below_drew1|refine below_set ?_ GE687.out|refine below_set ?_ GE704.out|refine below_set ?_ GE705.out|refine below_set ?_ GE712.out|refine below_set ?_ GE722.out|refine below_set ?_ GE723.out)|exact HB.out)⟩⟩
                  · replace c95:=Bool.eq_false_iff.mpr c95
                    subst c95
                    have H1:(none)=some r:=by rw [if_neg (show ¬ (false=true) by decide)] at H;exact H
                    clear H
                    have H:=H1
                    clear H1
                    exact absurd H (by simp)
                · replace c93:=Bool.eq_false_iff.mpr c93
                  subst c93
                  have H1:(none)=some r:=by rw [if_neg (show ¬ (false=true) by decide)] at H;exact H
                  clear H
                  have H:=H1
                  clear H1
                  exact absurd H (by simp)
            case rest=>
              clear HC79
              try clear c1
              try clear c2
              try clear p2
              try clear c3
              try clear c3b0
              try clear c4
              try clear c5
              try clear c6
              try clear c7
              try clear c8
              try clear c9
              try clear c10
              try clear c11
              try clear c18
              try clear c22
              try clear c23
              try clear c25
              try clear c31
              try clear c32
              try clear c33
              try clear c36
              try clear c37
              try clear c39
              try clear c40
              try clear c41
              try clear c42
              try clear c43
              try clear c45
              try clear c46
              try clear c47
              try clear c48
              try clear c51
              try clear c53
              try clear c54
              try clear c55
              try clear c56
              try clear c57
              try clear c58
              try clear c60
              try clear c61
              try clear c62
              try clear c63
              try clear c66
              try clear c67
              try clear c68
              try clear c69
              try clear c70
              try clear c71
              try clear c74
              try clear c77
              try clear c84
              try clear c85
              try clear c86
              try clear c87
              try clear c88
              try clear c91
              try clear c91b0
              try clear c93
              try clear c95
              try clear c96
              try clear c97
              try clear c98
              try clear c99
              try clear c100
              try clear c102
              try clear c103
              try clear c104
              try clear c105
              try clear c108
              try clear c109
              try clear c110
              try clear c112
              try clear c113
              try clear hcz101_0
              try clear hcz101_1
              try clear hcz101_2
              try clear hcz101_3
              try clear hcz106_0
              try clear hcz106_1
              try clear hcz106_2
              try clear hcz106_3
              try clear hcz111_0
              try clear hcz111_1
              try clear hcz114_0
              try clear hcz114_1
              try clear hcz13_0
              try clear hcz13_1
              try clear hcz13_2
              try clear hcz13_3
              try clear hcz15_0
              try clear hcz15_1
              try clear hcz15_2
              try clear hcz15_3
              try clear hcz24_0
              try clear hcz24_1
              try clear hcz24_2
              try clear hcz24_3
              try clear hcz26_0
              try clear hcz26_1
              try clear hcz27_0
              try clear hcz27_1
              try clear hcz27_2
              try clear hcz27_3
              try clear hcz34_0
              try clear hcz34_1
              try clear hcz34_2
              try clear hcz34_3
              try clear hcz44_0
              try clear hcz44_1
              try clear hcz44_2
              try clear hcz44_3
              try clear hcz49_0
              try clear hcz49_1
              try clear hcz59_0
              try clear hcz59_1
              try clear hcz59_2
              try clear hcz59_3
              try clear hcz5_0
              try clear hcz5_1
              try clear hcz5_2
              try clear hcz5_3
              try clear hcz64_0
              try clear hcz64_1
              try clear hcz64_2
              try clear hcz64_3
              try clear hcz69_0
              try clear hcz69_1
              try clear hcz72_0
              try clear hcz72_1
              try clear hcz89_0
              try clear hcz89_1
              try clear hcz89_2
              try clear hcz89_3
              try clear hfz101_0
              try clear hfz101_1
              try clear hfz101_2
              try clear hfz101_3
              try clear hfz106_0
              try clear hfz106_1
              try clear hfz106_2
              try clear hfz106_3
              try clear hfz111_0
              try clear hfz111_1
              try clear hfz114_0
              try clear hfz114_1
              try clear hfz13_0
              try clear hfz13_1
              try clear hfz13_2
              try clear hfz13_3
              try clear hfz15_0
              try clear hfz15_1
              try clear hfz15_2
              try clear hfz15_3
              try clear hfz24_0
              try clear hfz24_1
              try clear hfz24_2
              try clear hfz24_3
              try clear hfz26_0
              try clear hfz26_1
              try clear hfz27_0
              try clear hfz27_1
              try clear hfz27_2
              try clear hfz27_3
              try clear hfz34_0
              try clear hfz34_1
              try clear hfz34_2
              try clear hfz34_3
              try clear hfz44_0
              try clear hfz44_1
              try clear hfz44_2
              try clear hfz44_3
              try clear hfz49_0
              try clear hfz49_1
              try clear hfz59_0
              try clear hfz59_1
              try clear hfz59_2
              try clear hfz59_3
              try clear hfz5_0
              try clear hfz5_1
              try clear hfz5_2
              try clear hfz5_3
              try clear hfz64_0
              try clear hfz64_1
              try clear hfz64_2
              try clear hfz64_3
              try clear hfz69_0
              try clear hfz69_1
              try clear hfz72_0
              try clear hfz72_1
              try clear hfz89_0
              try clear hfz89_1
              try clear hfz89_2
              try clear hfz89_3
              try clear p2
              obtain ⟨kq,x78_78,rfl,HA,HJ78,HO_705000,HO_713000,HO_723000,BK687,BK704,BK705,BK712,BK722,BK723,HB⟩:=hcut
              have hl713000_78:=(Kd.R_reads' HO_713000.out).1
              rw [hl713000_78] at HO_713000
              (try simp only [hl713000_78])
              (try simp only [hl713000_78] at BK687)
              (try simp only [hl713000_78] at BK704)
              (try simp only [hl713000_78] at BK705)
              (try simp only [hl713000_78] at BK712)
              (try simp only [hl713000_78] at BK722)
              (try simp only [hl713000_78] at BK723)
              (try simp only [hl713000_78] at HO_705000)
              (try simp only [hl713000_78] at HO_723000)
              cases kq with
              |zero=> exact absurd HA.out (by simp [laws_FnExactTakeOne.j1])
              |succ kj78=>
                have H:=HA.out
                clear HA
                simp only [laws_FnExactTakeOne.j1] at H
                by_cases c116:x78_78=true
                · subst c116
                  have H1:(none)=some r:=by rw [if_pos rfl] at H;exact H
                  clear H
                  have H:=H1
                  clear H1
                  exact absurd H (by simp)
                · replace c116:=Bool.eq_false_iff.mpr c116
                  subst c116
                  have H1:((laws_markSource.f kj78 t713 t716 t717 t718 1).bind fun bt737=> ((laws_heldSource.f kj78 bt737.2 t716 t717 t718 1).bind fun t739=> (if t739 < 0 then (none) else (if t739=bt737.1 then ((laws_toSource.f kj78 l0_0 a0_1 a0_2 a0_3).bind fun bt740=> ((impl_TakeOne.f bt740.1 bt740.2.1 bt740.2.2.1 bt740.2.2.2).bind fun bt746=> ((laws_eqSource.f kj78 bt746.1 bt746.2.1 bt746.2.2.1 bt746.2.2.2.1 t695 t698 t699 t700).bind fun t757=> (if t757=true then ((laws_eqExt.f bt746.2.2.2.2.1 bt746.2.2.2.2.2.1 t701 t702).bind fun t758=> (if t758=true then (laws_FnExactTakeOne.j2 kj78 bt737.1 (bt746.2.2.2.2.2.2 !=t703) bt737.2 t716 t717 t718) else (none))) else (none))))) else (none)))))=some r:=by rw [if_neg (show ¬ (false=true) by decide)] at H;exact H
                  clear H
                  have H:=H1
                  clear H1
                  replace H:=Option.bind_eq_some_iff.mp H
                  obtain ⟨⟨t737,t738⟩,A1170,H⟩:=H
                  replace H:((laws_heldSource.f kj78 t738 t716 t717 t718 1).bind fun t739=> (if t739 < 0 then (none) else (if t739=t737 then ((laws_toSource.f kj78 l0_0 a0_1 a0_2 a0_3).bind fun bt740=> ((impl_TakeOne.f bt740.1 bt740.2.1 bt740.2.2.1 bt740.2.2.2).bind fun bt746=> ((laws_eqSource.f kj78 bt746.1 bt746.2.1 bt746.2.2.1 bt746.2.2.2.1 t695 t698 t699 t700).bind fun t757=> (if t757=true then ((laws_eqExt.f bt746.2.2.2.2.1 bt746.2.2.2.2.2.1 t701 t702).bind fun t758=> (if t758=true then (laws_FnExactTakeOne.j2 kj78 t737 (bt746.2.2.2.2.2.2 !=t703) t738 t716 t717 t718) else (none))) else (none))))) else (none))))=some r:=H
                  have A117:=Aside0.mk A1170
                  clear A1170
                  replace H:=Option.bind_eq_some_iff.mp H
                  obtain ⟨t739,A1180,H⟩:=H
                  replace H:(if t739 < 0 then (none) else (if t739=t737 then ((laws_toSource.f kj78 l0_0 a0_1 a0_2 a0_3).bind fun bt740=> ((impl_TakeOne.f bt740.1 bt740.2.1 bt740.2.2.1 bt740.2.2.2).bind fun bt746=> ((laws_eqSource.f kj78 bt746.1 bt746.2.1 bt746.2.2.1 bt746.2.2.2.1 t695 t698 t699 t700).bind fun t757=> (if t757=true then ((laws_eqExt.f bt746.2.2.2.2.1 bt746.2.2.2.2.2.1 t701 t702).bind fun t758=> (if t758=true then (laws_FnExactTakeOne.j2 kj78 t737 (bt746.2.2.2.2.2.2 !=t703) t738 t716 t717 t718) else (none))) else (none))))) else (none)))=some r:=H
                  have A118:=Aside0.mk A1180
                  clear A1180
                  by_cases c119:t739 < 0
                  · rw [if_pos c119] at H
                    exact absurd H (by simp)
                  · rw [if_neg c119] at H
                    have c119b0:decide (t739 < 0)=false:=decide_eq_false c119
                    clear c119
                    by_cases c120:t739=t737
                    · rw [if_pos c120] at H
                      have c120b0:(t739==t737)=true:=beq_iff_eq.mpr c120
                      have c120b1:(t739 !=t737)=false:=bne_eq_false_iff_eq.mpr c120
                      clear c120
                      replace H:=Option.bind_eq_some_iff.mp H
                      obtain ⟨⟨t740,t743,t744,t745⟩,A1210,H⟩:=H
                      replace H:((impl_TakeOne.f t740 t743 t744 t745).bind fun bt746=> ((laws_eqSource.f kj78 bt746.1 bt746.2.1 bt746.2.2.1 bt746.2.2.2.1 t695 t698 t699 t700).bind fun t757=> (if t757=true then ((laws_eqExt.f bt746.2.2.2.2.1 bt746.2.2.2.2.2.1 t701 t702).bind fun t758=> (if t758=true then (laws_FnExactTakeOne.j2 kj78 t737 (bt746.2.2.2.2.2.2 !=t703) t738 t716 t717 t718) else (none))) else (none))))=some r:=H
                      have A121:=Aside0.mk A1210
                      clear A1210
                      replace H:=Option.bind_eq_some_iff.mp H
                      obtain ⟨⟨t746,t749,t750,t751,t752,t753,t754⟩,A1220,H⟩:=H
                      replace H:((laws_eqSource.f kj78 t746 t749 t750 t751 t695 t698 t699 t700).bind fun t757=> (if t757=true then ((laws_eqExt.f t752 t753 t701 t702).bind fun t758=> (if t758=true then (laws_FnExactTakeOne.j2 kj78 t737 (t754 !=t703) t738 t716 t717 t718) else (none))) else (none)))=some r:=H
                      have A122:=Aside0.mk A1220
                      clear A1220
                      have HC123:=Aside0.mk H
                      clear H
                      have hnb124:=NB722_687.out
                      have hnc124:=NB687_722.out
                      have hnb125:=NB722_704.out
                      have hnc125:=NB704_722.out
                      have hnb126:=NB722_705.out
                      have hnc126:=NB705_722.out
                      have hnb127:=NB722_712.out
                      have hnc127:=NB712_722.out
                      have hnb128:=NB722_723.out
                      have hnc128:=NB723_722.out
                      have hcz129_0:wc.cell? ⟨gb722,0,none⟩=some (.slice Ao38 t713.length co38):=(blk_cell BK722.out 0).trans rfl
                      have hcz129_1:wc.cell? ⟨gb722,1,none⟩=some (.int .i64 t716):=(blk_cell BK722.out 1).trans rfl
                      have hcz129_2:wc.cell? ⟨gb722,2,none⟩=some (.string t717):=(blk_cell BK722.out 2).trans rfl
                      have hcz129_3:wc.cell? ⟨gb722,3,none⟩=some (.int .i64 t718):=(blk_cell BK722.out 3).trans rfl
                      have hfz129_0:=blk_frozen BK722.out 0
                      have hfz129_1:=blk_frozen BK722.out 1
                      have hfz129_2:=blk_frozen BK722.out 2
                      have hfz129_3:=blk_frozen BK722.out 3
                      go_upto_region 25 with (first|((with_reducible refine gate_callee (f:=37) rfl ?_);refine goesL_ (some 81) rfl rfl Try.func37 (by kernel_rfl) rfl #[.agg #[.slice Ao38 t713.length co38,.int .i64 t716,.string t717,.int .i64 t718],.int .i64 1] rfl (by (try simp only [List.map_toArray,List.map_cons,List.map_nil]);first|done|rfl|(simp only [List.length_drop,List.length_take];rfl)) ?_;(with_reducible refine (laws_markSource.calls kj78 (fun k_=> some k_=(.slice Ao38 t713.length co38:Value).ownBlock) (.slice Ao38 t713.length co38) t713 t716 t717 t718 1 t737 t738 w _ ?side1 ?side2 A117.out).mono ?_);(case side1=> repeat (first|(with_reducible first|exact HB.out|apply below_alloc|apply pw_below_drewN|apply below_drew1|refine below_set ?_ GE687.out|refine below_set ?_ GE704.out|refine below_set ?_ GE705.out|refine below_set ?_ GE712.out|refine below_set ?_ GE722.out|refine below_set ?_ GE723.out)|exact HB.out));(case side2=> exact Kd.R_tight rfl HO_723000.out);rintro e w130 ⟨rfl,hy0,hb,hkp⟩;refine ⟨_,rfl,?_⟩;have n0_:=Aside0.mk (Kd.R_mono (ok':=fun k_=> some k_ ≠ (.slice Ao30 t734.length co30:Value).ownBlock ∧ some k_ ≠ (.slice Ao38 t713.length co38:Value).ownBlock ∧ k_ ≠ gb705 ∧ k_ ≠ gb723) (Kd.R_keptB (HO_705000.out) hkp (fun k_ hk_ hs_=> (hk_.2.1) hs_)) (fun k_ hk_=> ⟨hk_.1.1,hk_.1.2.1,hk_.1.2.2.1,hk_.1.2.2.2⟩));have n1_:=Aside0.mk (Kd.R_mono (ok':=fun k_=> some k_ ≠ (.slice Ao21 t695.length co21:Value).ownBlock ∧ some k_ ≠ (.slice Ao38 t713.length co38:Value).ownBlock ∧ k_ ≠ gb705 ∧ k_ ≠ gb723) (Kd.R_keptB (HO_713000.out) hkp (fun k_ hk_ hs_=> (hk_.2.1) hs_)) (fun k_ hk_=> ⟨hk_.1.1,hk_.1.2.1,hk_.1.2.2.1,hk_.1.2.2.2⟩));have n2_:=Aside0.mk (Kd.R_reok rfl hy0 (fun k_ e_=> HO_723000.out.1 k_ e_));have n3_:=Aside0.mk (blk_kept (by (with_reducible repeat (first|apply bN|apply bd|apply bA));exact BK687.out) hkp (fun hs_=> (fun e_=> (Kd.R_ne HO_723000.out BK687.out (by decide)) e_) hs_));have n4_:=Aside0.mk (blk_kept (by (with_reducible repeat (first|apply bN|apply bd|apply bA));exact BK704.out) hkp (fun hs_=> (fun e_=> (Kd.R_ne HO_723000.out BK704.out (by decide)) e_) hs_));have n5_:=Aside0.mk (blk_kept (by (with_reducible repeat (first|apply bN|apply bd|apply bA));exact BK705.out) hkp (fun hs_=> (fun e_=> (Kd.R_away HO_723000.out (fun _ hk=> hk.2.2.1)) e_) hs_));have n6_:=Aside0.mk (blk_kept (by (with_reducible repeat (first|apply bN|apply bd|apply bA));exact BK712.out) hkp (fun hs_=> (fun e_=> (Kd.R_ne HO_723000.out BK712.out (by decide)) e_) hs_));have n7_:=Aside0.mk (blk_kept (by (with_reducible repeat (first|apply bN|apply bd|apply bA));exact BK722.out) hkp (fun hs_=> (fun e_=> (Kd.R_ne HO_723000.out BK722.out (by decide)) e_) hs_));have n8_:=Aside0.mk (blk_kept (by (with_reducible repeat (first|apply bN|apply bd|apply bA));exact BK723.out) hkp (fun hs_=> (fun e_=> (Kd.R_away HO_723000.out (fun _ hk=> hk.2.2.2)) e_) hs_));have n9_:=Aside0.mk (hb);clear HO_705000;clear HO_713000;clear HO_723000;clear BK687;clear BK704;clear BK705;clear BK712;clear BK722;clear BK723;clear HB;have HO_705000:=n0_;have HO_713000:=n1_;have HO_723000:=n2_;have BK687:=n3_;have BK704:=n4_;have BK705:=n5_;have BK712:=n6_;have BK722:=n7_;have BK723:=n8_;have HB:=n9_;clear n0_ n1_ n2_ n3_ n4_ n5_ n6_ n7_ n8_ n9_;(try clear hb);(try clear hkp);(try clear hy0);have hcz131_0:w130.cell? ⟨gb722,0,none⟩=some (.slice Ao38 t713.length co38):=(blk_cell BK722.out 0).trans rfl;have hcz131_1:w130.cell? ⟨gb722,1,none⟩=some (.int .i64 t716):=(blk_cell BK722.out 1).trans rfl;have hcz131_2:w130.cell? ⟨gb722,2,none⟩=some (.string t717):=(blk_cell BK722.out 2).trans rfl;have hcz131_3:w130.cell? ⟨gb722,3,none⟩=some (.int .i64 t718):=(blk_cell BK722.out 3).trans rfl;have hfz131_0:=blk_frozen BK722.out 0;have hfz131_1:=blk_frozen BK722.out 1;have hfz131_2:=blk_frozen BK722.out 2;have hfz131_3:=blk_frozen BK722.out 3)|((with_reducible refine gate_callee (f:=38) rfl ?_);refine goesL_ (some 84) rfl rfl Try.func38 (by kernel_rfl) rfl #[.agg #[.slice Ao38 t738.length co38,.int .i64 t716,.string t717,.int .i64 t718],.int .i64 1] rfl (by (try simp only [List.map_toArray,List.map_cons,List.map_nil]);first|done|(rw [show t738.length=t713.length from (Kd.R_reads' HO_723000.out).1.symm] <;> rfl)|rfl|(simp only [List.length_drop,List.length_take];rfl)) ?_;(with_reducible refine (laws_heldSource.calls kj78 _ _ t738 t716 t717 t718 1 t739 _ ?side1 ?side2 A118.out).mono ?_);(case side1=> repeat (first|exact (Kd.R_reads' HO_723000.out).2.2|(with_reducible refine Kd.C_alloc ?_ _)|(with_reducible refine Kd.C_drewN ?_ _)|(with_reducible refine Kd.C_drew ?_)));(case side2=> rw [show t738.length=t713.length from (Kd.R_reads' HO_723000.out).1.symm];exact (Kd.R_reads' HO_723000.out).2.1);rintro e w132 ⟨rfl,hb⟩;refine ⟨_,rfl,?_⟩;have n0_:=Aside0.mk (Kd.R_below (by (with_reducible repeat (first|apply Kd.R_alloc|apply Kd.R_drewN|apply Kd.R_drew));exact HO_705000.out) hb);have n1_:=Aside0.mk (Kd.R_below (by (with_reducible repeat (first|apply Kd.R_alloc|apply Kd.R_drewN|apply Kd.R_drew));exact HO_713000.out) hb);have n2_:=Aside0.mk (Kd.R_below (by (with_reducible repeat (first|apply Kd.R_alloc|apply Kd.R_drewN|apply Kd.R_drew));exact HO_723000.out) hb);have n3_:=Aside0.mk (blk_below (g:=gb687) (o:= .cells #[.slice A0_0 l0_0.length c0_0,.int .i64 a0_1,.string a0_2,.int .i64 a0_3] 61 (0,0)) (by (with_reducible repeat (first|apply bN|apply bd|apply bA));exact BK687.out) hb);have n4_:=Aside0.mk (blk_below (g:=gb704) (o:= .cells #[.slice Ao21 t695.length co21,.int .i64 t698,.string t699,.int .i64 t700] 36 (0,0)) (by (with_reducible repeat (first|apply bN|apply bd|apply bA));exact BK704.out) hb);have n5_:=Aside0.mk (blk_below (g:=gb705) (o:= .cells #[.int .i64 t701,.int .i64 t702] 79 (0,0)) (by (with_reducible repeat (first|apply bN|apply bd|apply bA));exact BK705.out) hb);have n6_:=Aside0.mk (blk_below (g:=gb712) (o:= .cells #[.slice Ao30 t734.length co30,.int .i64 t709,.string t710,.int .i64 t711] 36 (0,0)) (by (with_reducible repeat (first|apply bN|apply bd|apply bA));exact BK712.out) hb);have n7_:=Aside0.mk (blk_below (g:=gb722) (o:= .cells #[.slice Ao38 t713.length co38,.int .i64 t716,.string t717,.int .i64 t718] 36 (0,0)) (by (with_reducible repeat (first|apply bN|apply bd|apply bA));exact BK722.out) hb);have n8_:=Aside0.mk (blk_below (g:=gb723) (o:= .cells #[.int .i64 t719,.int .i64 t720] 79 (0,0)) (by (with_reducible repeat (first|apply bN|apply bd|apply bA));exact BK723.out) hb);have n9_:=Aside0.mk (below_step (by repeat (first|(with_reducible first|exact HB.out|apply below_alloc|apply pw_below_drewN|apply below_drew1|refine below_set ?_ GE687.out|refine below_set ?_ GE704.out|refine below_set ?_ GE705.out|refine below_set ?_ GE712.out|refine below_set ?_ GE722.out|refine below_set ?_ GE723.out)|exact HB.out)) hb);clear HO_705000;clear HO_713000;clear HO_723000;clear BK687;clear BK704;clear BK705;clear BK712;clear BK722;clear BK723;clear HB;have HO_705000:=n0_;have HO_713000:=n1_;have HO_723000:=n2_;have BK687:=n3_;have BK704:=n4_;have BK705:=n5_;have BK712:=n6_;have BK722:=n7_;have BK723:=n8_;have HB:=n9_;clear n0_ n1_ n2_ n3_ n4_ n5_ n6_ n7_ n8_ n9_;(try clear hb);(try clear hb2);(try clear hk);(try clear hi);have hnb133:=NB687_704.out;have hnc133:=NB704_687.out;have hnb134:=NB687_705.out;have hnc134:=NB705_687.out;have hnb135:=NB687_712.out;have hnc135:=NB712_687.out;have hnb136:=NB687_723.out;have hnc136:=NB723_687.out;have hcz137_0:w132.cell? ⟨gb687,0,none⟩=some (.slice A0_0 l0_0.length c0_0):=(blk_cell BK687.out 0).trans rfl;have hcz137_1:w132.cell? ⟨gb687,1,none⟩=some (.int .i64 a0_1):=(blk_cell BK687.out 1).trans rfl;have hcz137_2:w132.cell? ⟨gb687,2,none⟩=some (.string a0_2):=(blk_cell BK687.out 2).trans rfl;have hcz137_3:w132.cell? ⟨gb687,3,none⟩=some (.int .i64 a0_3):=(blk_cell BK687.out 3).trans rfl;have hfz137_0:=blk_frozen BK687.out 0;have hfz137_1:=blk_frozen BK687.out 1;have hfz137_2:=blk_frozen BK687.out 2;have hfz137_3:=blk_frozen BK687.out 3)|((with_reducible refine gate_callee (f:=55) rfl ?_);refine goesL_ (some 92) rfl rfl Try.func55 (by kernel_rfl) rfl #[.agg #[.slice A0_0 l0_0.length c0_0,.int .i64 a0_1,.string a0_2,.int .i64 a0_3]] rfl (by (try simp only [List.map_toArray,List.map_cons,List.map_nil]);first|done|rfl|(simp only [List.length_drop,List.length_take];rfl)) ?_;(with_reducible refine (laws_toSource.calls kj78 _ _ l0_0 a0_1 a0_2 a0_3 t740 t743 t744 t745 _ ?side1 ?side2 A121.out).mono ?_);(case side1=> repeat (first|exact (Kd.C_below HR0_0.out HB.out)|(with_reducible refine Kd.C_alloc ?_ _)|(with_reducible refine Kd.C_drewN ?_ _)|(with_reducible refine Kd.C_drew ?_)));(case side2=> exact HC0_0.out);rintro e w138 ⟨v741,rfl,ho0,hb⟩;refine ⟨_,rfl,?_⟩;have n0_:=Aside0.mk (Kd.R_elder' (by (with_reducible repeat (first|apply Kd.R_alloc|apply Kd.R_drewN|apply Kd.R_drew));exact HO_705000.out) (Kd.R_base ho0) hb);have n1_:=Aside0.mk (Kd.R_elder' (by (with_reducible repeat (first|apply Kd.R_alloc|apply Kd.R_drewN|apply Kd.R_drew));exact HO_713000.out) (Kd.R_base ho0) hb);have n2_:=Aside0.mk (Kd.R_elder' (by (with_reducible repeat (first|apply Kd.R_alloc|apply Kd.R_drewN|apply Kd.R_drew));exact HO_723000.out) (Kd.R_base ho0) hb);have n3_:=Aside0.mk (Kd.R_lower (Kd.R_newB (Kd.R_newB (Kd.R_new' (Kd.R_new' (Kd.R_new' ho0 (Kd.R_lt (by (with_reducible repeat (first|apply Kd.R_alloc|apply Kd.R_drewN|apply Kd.R_drew));exact HO_705000.out))) (Kd.R_lt (by (with_reducible repeat (first|apply Kd.R_alloc|apply Kd.R_drewN|apply Kd.R_drew));exact HO_713000.out))) (Kd.R_lt (by (with_reducible repeat (first|apply Kd.R_alloc|apply Kd.R_drewN|apply Kd.R_drew));exact HO_723000.out))) (g:=gb705) (o:= .cells #[.int .i64 t701,.int .i64 t702] 79 (0,0)) (by (with_reducible repeat (first|apply bN|apply bd|apply bA));exact BK705.out)) (g:=gb723) (o:= .cells #[.int .i64 t719,.int .i64 t720] 79 (0,0)) (by (with_reducible repeat (first|apply bN|apply bd|apply bA));exact BK723.out)) (below_size (by repeat (first|(with_reducible first|exact HB.out|apply below_alloc|apply pw_below_drewN|apply below_drew1|refine below_set ?_ GE687.out|refine below_set ?_ GE704.out|refine below_set ?_ GE705.out|refine below_set ?_ GE712.out|refine below_set ?_ GE722.out|refine below_set ?_ GE723.out)|exact HB.out))));have n4_:=Aside0.mk (blk_below (g:=gb687) (o:= .cells #[.slice A0_0 l0_0.length c0_0,.int .i64 a0_1,.string a0_2,.int .i64 a0_3] 61 (0,0)) (by (with_reducible repeat (first|apply bN|apply bd|apply bA));exact BK687.out) hb);have n5_:=Aside0.mk (blk_below (g:=gb704) (o:= .cells #[.slice Ao21 t695.length co21,.int .i64 t698,.string t699,.int .i64 t700] 36 (0,0)) (by (with_reducible repeat (first|apply bN|apply bd|apply bA));exact BK704.out) hb);have n6_:=Aside0.mk (blk_below (g:=gb705) (o:= .cells #[.int .i64 t701,.int .i64 t702] 79 (0,0)) (by (with_reducible repeat (first|apply bN|apply bd|apply bA));exact BK705.out) hb);have n7_:=Aside0.mk (blk_below (g:=gb712) (o:= .cells #[.slice Ao30 t734.length co30,.int .i64 t709,.string t710,.int .i64 t711] 36 (0,0)) (by (with_reducible repeat (first|apply bN|apply bd|apply bA));exact BK712.out) hb);have n8_:=Aside0.mk (blk_below (g:=gb722) (o:= .cells #[.slice Ao38 t713.length co38,.int .i64 t716,.string t717,.int .i64 t718] 36 (0,0)) (by (with_reducible repeat (first|apply bN|apply bd|apply bA));exact BK722.out) hb);have n9_:=Aside0.mk (blk_below (g:=gb723) (o:= .cells #[.int .i64 t719,.int .i64 t720] 79 (0,0)) (by (with_reducible repeat (first|apply bN|apply bd|apply bA));exact BK723.out) hb);have n10_:=Aside0.mk (below_step (by repeat (first|(with_reducible first|exact HB.out|apply below_alloc|apply pw_below_drewN|apply below_drew1|refine below_set ?_ GE687.out|refine below_set ?_ GE704.out|refine below_set ?_ GE705.out|refine below_set ?_ GE712.out|refine below_set ?_ GE722.out|refine below_set ?_ GE723.out)|exact HB.out)) hb);clear HO_705000;clear HO_713000;clear HO_723000;clear BK687;clear BK704;clear BK705;clear BK712;clear BK722;clear BK723;clear HB;have HO_705000:=n0_;have HO_713000:=n1_;have HO_723000:=n2_;have HO742:=n3_;have BK687:=n4_;have BK704:=n5_;have BK705:=n6_;have BK712:=n7_;have BK722:=n8_;have BK723:=n9_;have HB:=n10_;clear n0_ n1_ n2_ n3_ n4_ n5_ n6_ n7_ n8_ n9_ n10_;(try clear hb);(try clear hb2);(try clear hk);(try clear hi);(try clear ho0);obtain ⟨Ao139,co139,eo139⟩:=Kd.R_slice HO742.out;subst eo139)|((with_reducible refine gate_callee (f:=70) rfl ?_);refine goesL_ (some 93) rfl rfl Try.func70 (by kernel_rfl) rfl #[.agg #[.slice Ao139 t740.length co139,.int .i64 t743,.string t744,.int .i64 t745]] rfl (by (try simp only [List.map_toArray,List.map_cons,List.map_nil]);first|done|rfl|(simp only [List.length_drop,List.length_take];rfl)) ?_;(with_reducible refine (impl_TakeOne.calls _ _ t740 t743 t744 t745 t746 t749 t750 t751 t752 t753 t754 _ ?side1 ?side2 A122.out).mono ?_);(case side1=> repeat (first|exact (Kd.R_reads' HO742.out).2.2|(with_reducible refine Kd.C_alloc ?_ _)|(with_reducible refine Kd.C_drewN ?_ _)|(with_reducible refine Kd.C_drew ?_)));(case side2=> exact (Kd.R_reads' HO742.out).2.1);rintro e w140 ⟨v747,rfl,ho0,hb⟩;refine ⟨_,rfl,?_⟩;have n0_:=Aside0.mk (Kd.R_elder' (by (with_reducible repeat (first|apply Kd.R_alloc|apply Kd.R_drewN|apply Kd.R_drew));exact HO_705000.out) (Kd.R_base ho0) hb);have n1_:=Aside0.mk (Kd.R_elder' (by (with_reducible repeat (first|apply Kd.R_alloc|apply Kd.R_drewN|apply Kd.R_drew));exact HO_713000.out) (Kd.R_base ho0) hb);have n2_:=Aside0.mk (Kd.R_elder' (by (with_reducible repeat (first|apply Kd.R_alloc|apply Kd.R_drewN|apply Kd.R_drew));exact HO_723000.out) (Kd.R_base ho0) hb);have n3_:=Aside0.mk (Kd.R_elder' (by (with_reducible repeat (first|apply Kd.R_alloc|apply Kd.R_drewN|apply Kd.R_drew));exact HO742.out) (Kd.R_base ho0) hb);have n4_:=Aside0.mk (Kd.R_lower (Kd.R_newB (Kd.R_newB (Kd.R_new' (Kd.R_new' (Kd.R_new' (Kd.R_new' ho0 (Kd.R_lt (by (with_reducible repeat (first|apply Kd.R_alloc|apply Kd.R_drewN|apply Kd.R_drew));exact HO_705000.out))) (Kd.R_lt (by (with_reducible repeat (first|apply Kd.R_alloc|apply Kd.R_drewN|apply Kd.R_drew));exact HO_713000.out))) (Kd.R_lt (by (with_reducible repeat (first|apply Kd.R_alloc|apply Kd.R_drewN|apply Kd.R_drew));exact HO_723000.out))) (Kd.R_lt (by (with_reducible repeat (first|apply Kd.R_alloc|apply Kd.R_drewN|apply Kd.R_drew));exact HO742.out))) (g:=gb705) (o:= .cells #[.int .i64 t701,.int .i64 t702] 79 (0,0)) (by (with_reducible repeat (first|apply bN|apply bd|apply bA));exact BK705.out)) (g:=gb723) (o:= .cells #[.int .i64 t719,.int .i64 t720] 79 (0,0)) (by (with_reducible repeat (first|apply bN|apply bd|apply bA));exact BK723.out)) (below_size (by repeat (first|(with_reducible first|exact HB.out|apply below_alloc|apply pw_below_drewN|apply below_drew1|refine below_set ?_ GE687.out|refine below_set ?_ GE704.out|refine below_set ?_ GE705.out|refine below_set ?_ GE712.out|refine below_set ?_ GE722.out|refine below_set ?_ GE723.out)|exact HB.out))));have n5_:=Aside0.mk (blk_below (g:=gb687) (o:= .cells #[.slice A0_0 l0_0.length c0_0,.int .i64 a0_1,.string a0_2,.int .i64 a0_3] 61 (0,0)) (by (with_reducible repeat (first|apply bN|apply bd|apply bA));exact BK687.out) hb);have n6_:=Aside0.mk (blk_below (g:=gb704) (o:= .cells #[.slice Ao21 t695.length co21,.int .i64 t698,.string t699,.int .i64 t700] 36 (0,0)) (by (with_reducible repeat (first|apply bN|apply bd|apply bA));exact BK704.out) hb);have n7_:=Aside0.mk (blk_below (g:=gb705) (o:= .cells #[.int .i64 t701,.int .i64 t702] 79 (0,0)) (by (with_reducible repeat (first|apply bN|apply bd|apply bA));exact BK705.out) hb);have n8_:=Aside0.mk (blk_below (g:=gb712) (o:= .cells #[.slice Ao30 t734.length co30,.int .i64 t709,.string t710,.int .i64 t711] 36 (0,0)) (by (with_reducible repeat (first|apply bN|apply bd|apply bA));exact BK712.out) hb);have n9_:=Aside0.mk (blk_below (g:=gb722) (o:= .cells #[.slice Ao38 t713.length co38,.int .i64 t716,.string t717,.int .i64 t718] 36 (0,0)) (by (with_reducible repeat (first|apply bN|apply bd|apply bA));exact BK722.out) hb);have n10_:=Aside0.mk (blk_below (g:=gb723) (o:= .cells #[.int .i64 t719,.int .i64 t720] 79 (0,0)) (by (with_reducible repeat (first|apply bN|apply bd|apply bA));exact BK723.out) hb);have n11_:=Aside0.mk (below_step (by repeat (first|(with_reducible first|exact HB.out|apply below_alloc|apply pw_below_drewN|apply below_drew1|refine below_set ?_ GE687.out|refine below_set ?_ GE704.out|refine below_set ?_ GE705.out|refine below_set ?_ GE712.out|refine below_set ?_ GE722.out|refine below_set ?_ GE723.out)|exact HB.out)) hb);clear HO_705000;clear HO_713000;clear HO_723000;clear HO742;clear BK687;clear BK704;clear BK705;clear BK712;clear BK722;clear BK723;clear HB;have HO_705000:=n0_;have HO_713000:=n1_;have HO_723000:=n2_;have HO742:=n3_;have HO748:=n4_;have BK687:=n5_;have BK704:=n6_;have BK705:=n7_;have BK712:=n8_;have BK722:=n9_;have BK723:=n10_;have HB:=n11_;clear n0_ n1_ n2_ n3_ n4_ n5_ n6_ n7_ n8_ n9_ n10_ n11_;(try clear hb);(try clear hb2);(try clear hk);(try clear hi);(try clear ho0))|((with_reducible refine gate_dst (N:=14) rfl ?_);refine box_event ?hg (N:=14) ?hd (cs:= #[.slice none 0 0,.int .i64 0,.string (⟨#[]⟩:ByteArray),.int .i64 0]) (t:=36) ?hr ?_;(case hd=> rfl);(case hg=> rfl);(case hr=> first|(go_simp;done)|(go_simp;rfl));intro gb755 hg w141 hbox hb;have n0_:=Aside0.mk (Kd.R_below (by (with_reducible repeat (first|apply Kd.R_alloc|apply Kd.R_drewN|apply Kd.R_drew));exact HO_705000.out) hb);have n1_:=Aside0.mk (Kd.R_below (by (with_reducible repeat (first|apply Kd.R_alloc|apply Kd.R_drewN|apply Kd.R_drew));exact HO_713000.out) hb);have n2_:=Aside0.mk (Kd.R_below (by (with_reducible repeat (first|apply Kd.R_alloc|apply Kd.R_drewN|apply Kd.R_drew));exact HO_723000.out) hb);have n3_:=Aside0.mk (Kd.R_below (by (with_reducible repeat (first|apply Kd.R_alloc|apply Kd.R_drewN|apply Kd.R_drew));exact HO742.out) hb);have n4_:=Aside0.mk (Kd.R_below (by (with_reducible repeat (first|apply Kd.R_alloc|apply Kd.R_drewN|apply Kd.R_drew));exact HO748.out) hb);have n5_:=Aside0.mk (blk_below (g:=gb687) (o:= .cells #[.slice A0_0 l0_0.length c0_0,.int .i64 a0_1,.string a0_2,.int .i64 a0_3] 61 (0,0)) (by (with_reducible repeat (first|apply bN|apply bd|apply bA));exact BK687.out) hb);have n6_:=Aside0.mk (blk_below (g:=gb704) (o:= .cells #[.slice Ao21 t695.length co21,.int .i64 t698,.string t699,.int .i64 t700] 36 (0,0)) (by (with_reducible repeat (first|apply bN|apply bd|apply bA));exact BK704.out) hb);have n7_:=Aside0.mk (blk_below (g:=gb705) (o:= .cells #[.int .i64 t701,.int .i64 t702] 79 (0,0)) (by (with_reducible repeat (first|apply bN|apply bd|apply bA));exact BK705.out) hb);have n8_:=Aside0.mk (blk_below (g:=gb712) (o:= .cells #[.slice Ao30 t734.length co30,.int .i64 t709,.string t710,.int .i64 t711] 36 (0,0)) (by (with_reducible repeat (first|apply bN|apply bd|apply bA));exact BK712.out) hb);have n9_:=Aside0.mk (blk_below (g:=gb722) (o:= .cells #[.slice Ao38 t713.length co38,.int .i64 t716,.string t717,.int .i64 t718] 36 (0,0)) (by (with_reducible repeat (first|apply bN|apply bd|apply bA));exact BK722.out) hb);have n10_:=Aside0.mk (blk_below (g:=gb723) (o:= .cells #[.int .i64 t719,.int .i64 t720] 79 (0,0)) (by (with_reducible repeat (first|apply bN|apply bd|apply bA));exact BK723.out) hb);have n11_:=Aside0.mk (below_step (by repeat (first|(with_reducible first|exact HB.out|apply below_alloc|apply pw_below_drewN|apply below_drew1|refine below_set ?_ GE687.out|refine below_set ?_ GE704.out|refine below_set ?_ GE705.out|refine below_set ?_ GE712.out|refine below_set ?_ GE722.out|refine below_set ?_ GE723.out)|exact HB.out)) hb);have n12_:=Aside0.mk (hbox);have n13_:=Aside0.mk ((by rw [hg];exact (below_size (by repeat (first|(with_reducible first|exact HB.out|apply below_alloc|apply pw_below_drewN|apply below_drew1|refine below_set ?_ GE687.out|refine below_set ?_ GE704.out|refine below_set ?_ GE705.out|refine below_set ?_ GE712.out|refine below_set ?_ GE722.out|refine below_set ?_ GE723.out)|exact HB.out))):w.heap.size ≤ gb755));have n14_:=Aside0.mk ((by rw [hg];exact (below_size (by repeat (first|(with_reducible first|exact HB.out|apply below_alloc|apply pw_below_drewN|apply below_drew1|refine below_set ?_ GE687.out|refine below_set ?_ GE704.out|refine below_set ?_ GE705.out|refine below_set ?_ GE712.out|refine below_set ?_ GE722.out|refine below_set ?_ GE723.out)|exact HB.out))):w.heap.size ≤ gb755));have n15_:=Aside0.mk ((by rw [hg];exact Nat.ne_of_lt (blk_lt (g:=gb687) (o:= .cells #[.slice A0_0 l0_0.length c0_0,.int .i64 a0_1,.string a0_2,.int .i64 a0_3] 61 (0,0)) (by (with_reducible repeat (first|apply bN|apply bd|apply bA));exact BK687.out)):gb687 ≠ gb755));have n16_:=Aside0.mk ((by rw [hg];exact Nat.ne_of_gt (blk_lt (g:=gb687) (o:= .cells #[.slice A0_0 l0_0.length c0_0,.int .i64 a0_1,.string a0_2,.int .i64 a0_3] 61 (0,0)) (by (with_reducible repeat (first|apply bN|apply bd|apply bA));exact BK687.out)):gb755 ≠ gb687));have n17_:=Aside0.mk ((by rw [hg];exact Nat.ne_of_lt (blk_lt (g:=gb704) (o:= .cells #[.slice Ao21 t695.length co21,.int .i64 t698,.string t699,.int .i64 t700] 36 (0,0)) (by (with_reducible repeat (first|apply bN|apply bd|apply bA));exact BK704.out)):gb704 ≠ gb755));have n18_:=Aside0.mk ((by rw [hg];exact Nat.ne_of_gt (blk_lt (g:=gb704) (o:= .cells #[.slice Ao21 t695.length co21,.int .i64 t698,.string t699,.int .i64 t700] 36 (0,0)) (by (with_reducible repeat (first|apply bN|apply bd|apply bA));exact BK704.out)):gb755 ≠ gb704));have n19_:=Aside0.mk ((by rw [hg];exact Nat.ne_of_lt (blk_lt (g:=gb705) (o:= .cells #[.int .i64 t701,.int .i64 t702] 79 (0,0)) (by (with_reducible repeat (first|apply bN|apply bd|apply bA));exact BK705.out)):gb705 ≠ gb755));have n20_:=Aside0.mk ((by rw [hg];exact Nat.ne_of_gt (blk_lt (g:=gb705) (o:= .cells #[.int .i64 t701,.int .i64 t702] 79 (0,0)) (by (with_reducible repeat (first|apply bN|apply bd|apply bA));exact BK705.out)):gb755 ≠ gb705));have n21_:=Aside0.mk ((by rw [hg];exact Nat.ne_of_lt (blk_lt (g:=gb712) (o:= .cells #[.slice Ao30 t734.length co30,.int .i64 t709,.string t710,.int .i64 t711] 36 (0,0)) (by (with_reducible repeat (first|apply bN|apply bd|apply bA));exact BK712.out)):gb712 ≠ gb755));have n22_:=Aside0.mk ((by rw [hg];exact Nat.ne_of_gt (blk_lt (g:=gb712) (o:= .cells #[.slice Ao30 t734.length co30,.int .i64 t709,.string t710,.int .i64 t711] 36 (0,0)) (by (with_reducible repeat (first|apply bN|apply bd|apply bA));exact BK712.out)):gb755 ≠ gb712));have n23_:=Aside0.mk ((by rw [hg];exact Nat.ne_of_lt (blk_lt (g:=gb722) (o:= .cells #[.slice Ao38 t713.length co38,.int .i64 t716,.string t717,.int .i64 t718] 36 (0,0)) (by (with_reducible repeat (first|apply bN|apply bd|apply bA));exact BK722.out)):gb722 ≠ gb755));have n24_:=Aside0.mk ((by rw [hg];exact Nat.ne_of_gt (blk_lt (g:=gb722) (o:= .cells #[.slice Ao38 t713.length co38,.int .i64 t716,.string t717,.int .i64 t718] 36 (0,0)) (by (with_reducible repeat (first|apply bN|apply bd|apply bA));exact BK722.out)):gb755 ≠ gb722));have n25_:=Aside0.mk ((by rw [hg];exact Nat.ne_of_lt (blk_lt (g:=gb723) (o:= .cells #[.int .i64 t719,.int .i64 t720] 79 (0,0)) (by (with_reducible repeat (first|apply bN|apply bd|apply bA));exact BK723.out)):gb723 ≠ gb755));have n26_:=Aside0.mk ((by rw [hg];exact Nat.ne_of_gt (blk_lt (g:=gb723) (o:= .cells #[.int .i64 t719,.int .i64 t720] 79 (0,0)) (by (with_reducible repeat (first|apply bN|apply bd|apply bA));exact BK723.out)):gb755 ≠ gb723));clear HO_705000;clear HO_713000;clear HO_723000;clear HO742;clear HO748;clear BK687;clear BK704;clear BK705;clear BK712;clear BK722;clear BK723;clear HB;have HO_705000:=n0_;have HO_713000:=n1_;have HO_723000:=n2_;have HO742:=n3_;have HO748:=n4_;have BK687:=n5_;have BK704:=n6_;have BK705:=n7_;have BK712:=n8_;have BK722:=n9_;have BK723:=n10_;have HB:=n11_;have BK755:=n12_;have GW755:=n13_;have GE755:=n14_;have NB687_755:=n15_;have NB755_687:=n16_;have NB704_755:=n17_;have NB755_704:=n18_;have NB705_755:=n19_;have NB755_705:=n20_;have NB712_755:=n21_;have NB755_712:=n22_;have NB722_755:=n23_;have NB755_722:=n24_;have NB723_755:=n25_;have NB755_723:=n26_;clear n0_ n1_ n2_ n3_ n4_ n5_ n6_ n7_ n8_ n9_ n10_ n11_ n12_ n13_ n14_ n15_ n16_ n17_ n18_ n19_ n20_ n21_ n22_ n23_ n24_ n25_ n26_;clear hb hbox hg)|((with_reducible refine gate_dst (N:=15) rfl ?_);refine box_event ?hg (N:=15) ?hd (cs:= #[.int .i64 0,.int .i64 0]) (t:=79) ?hr ?_;(case hd=> rfl);(case hg=> rfl);(case hr=> first|(go_simp;done)|(go_simp;rfl));intro gb756 hg w142 hbox hb;have n0_:=Aside0.mk (Kd.R_below (Kd.R_elderB (by (with_reducible repeat (first|apply Kd.R_alloc|apply Kd.R_drewN|apply Kd.R_drew));exact HO_705000.out) gb756 (Nat.le_of_eq hg.symm)) hb);have n1_:=Aside0.mk (Kd.R_below (Kd.R_elderB (by (with_reducible repeat (first|apply Kd.R_alloc|apply Kd.R_drewN|apply Kd.R_drew));exact HO_713000.out) gb756 (Nat.le_of_eq hg.symm)) hb);have n2_:=Aside0.mk (Kd.R_below (Kd.R_elderB (by (with_reducible repeat (first|apply Kd.R_alloc|apply Kd.R_drewN|apply Kd.R_drew));exact HO_723000.out) gb756 (Nat.le_of_eq hg.symm)) hb);have n3_:=Aside0.mk (Kd.R_below (Kd.R_elderB (by (with_reducible repeat (first|apply Kd.R_alloc|apply Kd.R_drewN|apply Kd.R_drew));exact HO742.out) gb756 (Nat.le_of_eq hg.symm)) hb);have n4_:=Aside0.mk (Kd.R_below (Kd.R_elderB (by (with_reducible repeat (first|apply Kd.R_alloc|apply Kd.R_drewN|apply Kd.R_drew));exact HO748.out) gb756 (Nat.le_of_eq hg.symm)) hb);have n5_:=Aside0.mk (blk_below (g:=gb687) (o:= .cells #[.slice A0_0 l0_0.length c0_0,.int .i64 a0_1,.string a0_2,.int .i64 a0_3] 61 (0,0)) (by (with_reducible repeat (first|apply bN|apply bd|apply bA));exact BK687.out) hb);have n6_:=Aside0.mk (blk_below (g:=gb704) (o:= .cells #[.slice Ao21 t695.length co21,.int .i64 t698,.string t699,.int .i64 t700] 36 (0,0)) (by (with_reducible repeat (first|apply bN|apply bd|apply bA));exact BK704.out) hb);have n7_:=Aside0.mk (blk_below (g:=gb705) (o:= .cells #[.int .i64 t701,.int .i64 t702] 79 (0,0)) (by (with_reducible repeat (first|apply bN|apply bd|apply bA));exact BK705.out) hb);have n8_:=Aside0.mk (blk_below (g:=gb712) (o:= .cells #[.slice Ao30 t734.length co30,.int .i64 t709,.string t710,.int .i64 t711] 36 (0,0)) (by (with_reducible repeat (first|apply bN|apply bd|apply bA));exact BK712.out) hb);have n9_:=Aside0.mk (blk_below (g:=gb722) (o:= .cells #[.slice Ao38 t713.length co38,.int .i64 t716,.string t717,.int .i64 t718] 36 (0,0)) (by (with_reducible repeat (first|apply bN|apply bd|apply bA));exact BK722.out) hb);have n10_:=Aside0.mk (blk_below (g:=gb723) (o:= .cells #[.int .i64 t719,.int .i64 t720] 79 (0,0)) (by (with_reducible repeat (first|apply bN|apply bd|apply bA));exact BK723.out) hb);have n11_:=Aside0.mk (blk_below (g:=gb755) (o:= .cells #[.slice none 0 0,.int .i64 0,.string (⟨#[]⟩:ByteArray),.int .i64 0] 36 (0,0)) (by (with_reducible repeat (first|apply bN|apply bd|apply bA));exact BK755.out) hb);have n12_:=Aside0.mk (below_step (by repeat (first|(with_reducible first|exact HB.out|apply below_alloc|apply pw_below_drewN|apply below_drew1|refine below_set ?_ GE687.out|refine below_set ?_ GE704.out|refine below_set ?_ GE705.out|refine below_set ?_ GE712.out|refine below_set ?_ GE722.out|refine below_set ?_ GE723.out|refine below_set ?_ GE755.out)|exact HB.out)) hb);have n13_:=Aside0.mk (hbox);have n14_:=Aside0.mk ((by rw [hg];exact (below_size (by repeat (first|(with_reducible first|exact HB.out|apply below_alloc|apply pw_below_drewN|apply below_drew1|refine below_set ?_ GE687.out|refine below_set ?_ GE704.out|refine below_set ?_ GE705.out|refine below_set ?_ GE712.out|refine below_set ?_ GE722.out|refine below_set ?_ GE723.out|refine below_set ?_ GE755.out)|exact HB.out))):w.heap.size ≤ gb756));have n15_:=Aside0.mk ((by rw [hg];exact (below_size (by repeat (first|(with_reducible first|exact HB.out|apply below_alloc|apply pw_below_drewN|apply below_drew1|refine below_set ?_ GE687.out|refine below_set ?_ GE704.out|refine below_set ?_ GE705.out|refine below_set ?_ GE712.out|refine below_set ?_ GE722.out|refine below_set ?_ GE723.out|refine below_set ?_ GE755.out)|exact HB.out))):w.heap.size ≤ gb756));have n16_:=Aside0.mk ((by rw [hg];exact Nat.ne_of_lt (blk_lt (g:=gb687) (o:= .cells #[.slice A0_0 l0_0.length c0_0,.int .i64 a0_1,.string a0_2,.int .i64 a0_3] 61 (0,0)) (by (with_reducible repeat (first|apply bN|apply bd|apply bA));exact BK687.out)):gb687 ≠ gb756));have n17_:=Aside0.mk ((by rw [hg];exact Nat.ne_of_gt (blk_lt (g:=gb687) (o:= .cells #[.slice A0_0 l0_0.length c0_0,.int .i64 a0_1,.string a0_2,.int .i64 a0_3] 61 (0,0)) (by (with_reducible repeat (first|apply bN|apply bd|apply bA));exact BK687.out)):gb756 ≠ gb687));have n18_:=Aside0.mk ((by rw [hg];exact Nat.ne_of_lt (blk_lt (g:=gb704) (o:= .cells #[.slice Ao21 t695.length co21,.int .i64 t698,.string t699,.int .i64 t700] 36 (0,0)) (by (with_reducible repeat (first|apply bN|apply bd|apply bA));exact BK704.out)):gb704 ≠ gb756));have n19_:=Aside0.mk ((by rw [hg];exact Nat.ne_of_gt (blk_lt (g:=gb704) (o:= .cells #[.slice Ao21 t695.length co21,.int .i64 t698,.string t699,.int .i64 t700] 36 (0,0)) (by (with_reducible repeat (first|apply bN|apply bd|apply bA));exact BK704.out)):gb756 ≠ gb704));have n20_:=Aside0.mk ((by rw [hg];exact Nat.ne_of_lt (blk_lt (g:=gb705) (o:= .cells #[.int .i64 t701,.int .i64 t702] 79 (0,0)) (by (with_reducible repeat (first|apply bN|apply bd|apply bA));exact BK705.out)):gb705 ≠ gb756));have n21_:=Aside0.mk ((by rw [hg];exact Nat.ne_of_gt (blk_lt (g:=gb705) (o:= .cells #[.int .i64 t701,.int .i64 t702] 79 (0,0)) (by (with_reducible repeat (first|apply bN|apply bd|apply bA));exact BK705.out)):gb756 ≠ gb705));have n22_:=Aside0.mk ((by rw [hg];exact Nat.ne_of_lt (blk_lt (g:=gb712) (o:= .cells #[.slice Ao30 t734.length co30,.int .i64 t709,.string t710,.int .i64 t711] 36 (0,0)) (by (with_reducible repeat (first|apply bN|apply bd|apply bA));exact BK712.out)):gb712 ≠ gb756));have n23_:=Aside0.mk ((by rw [hg];exact Nat.ne_of_gt (blk_lt (g:=gb712) (o:= .cells #[.slice Ao30 t734.length co30,.int .i64 t709,.string t710,.int .i64 t711] 36 (0,0)) (by (with_reducible repeat (first|apply bN|apply bd|apply bA));exact BK712.out)):gb756 ≠ gb712));have n24_:=Aside0.mk ((by rw [hg];exact Nat.ne_of_lt (blk_lt (g:=gb722) (o:= .cells #[.slice Ao38 t713.length co38,.int .i64 t716,.string t717,.int .i64 t718] 36 (0,0)) (by (with_reducible repeat (first|apply bN|apply bd|apply bA));exact BK722.out)):gb722 ≠ gb756));have n25_:=Aside0.mk ((by rw [hg];exact Nat.ne_of_gt (blk_lt (g:=gb722) (o:= .cells #[.slice Ao38 t713.length co38,.int .i64 t716,.string t717,.int .i64 t718] 36 (0,0)) (by (with_reducible repeat (first|apply bN|apply bd|apply bA));exact BK722.out)):gb756 ≠ gb722));have n26_:=Aside0.mk ((by rw [hg];exact Nat.ne_of_lt (blk_lt (g:=gb723) (o:= .cells #[.int .i64 t719,.int .i64 t720] 79 (0,0)) (by (with_reducible repeat (first|apply bN|apply bd|apply bA));exact BK723.out)):gb723 ≠ gb756));have n27_:=Aside0.mk ((by rw [hg];exact Nat.ne_of_gt (blk_lt (g:=gb723) (o:= .cells #[.int .i64 t719,.int .i64 t720] 79 (0,0)) (by (with_reducible repeat (first|apply bN|apply bd|apply bA));exact BK723.out)):gb756 ≠ gb723));have n28_:=Aside0.mk ((by rw [hg];exact Nat.ne_of_lt (blk_lt (g:=gb755) (o:= .cells #[.slice none 0 0,.int .i64 0,.string (⟨#[]⟩:ByteArray),.int .i64 0] 36 (0,0)) (by (with_reducible repeat (first|apply bN|apply bd|apply bA));exact BK755.out)):gb755 ≠ gb756));have n29_:=Aside0.mk ((by rw [hg];exact Nat.ne_of_gt (blk_lt (g:=gb755) (o:= .cells #[.slice none 0 0,.int .i64 0,.string (⟨#[]⟩:ByteArray),.int .i64 0] 36 (0,0)) (by (with_reducible repeat (first|apply bN|apply bd|apply bA));exact BK755.out)):gb756 ≠ gb755));clear HO_705000;clear HO_713000;clear HO_723000;clear HO742;clear HO748;clear BK687;clear BK704;clear BK705;clear BK712;clear BK722;clear BK723;clear BK755;clear HB;have HO_705000:=n0_;have HO_713000:=n1_;have HO_723000:=n2_;have HO742:=n3_;have HO748:=n4_;have BK687:=n5_;have BK704:=n6_;have BK705:=n7_;have BK712:=n8_;have BK722:=n9_;have BK723:=n10_;have BK755:=n11_;have HB:=n12_;have BK756:=n13_;have GW756:=n14_;have GE756:=n15_;have NB687_756:=n16_;have NB756_687:=n17_;have NB704_756:=n18_;have NB756_704:=n19_;have NB705_756:=n20_;have NB756_705:=n21_;have NB712_756:=n22_;have NB756_712:=n23_;have NB722_756:=n24_;have NB756_722:=n25_;have NB723_756:=n26_;have NB756_723:=n27_;have NB755_756:=n28_;have NB756_755:=n29_;clear n0_ n1_ n2_ n3_ n4_ n5_ n6_ n7_ n8_ n9_ n10_ n11_ n12_ n13_ n14_ n15_ n16_ n17_ n18_ n19_ n20_ n21_ n22_ n23_ n24_ n25_ n26_ n27_ n28_ n29_;clear hb hbox hg;obtain ⟨Ao143,co143,eo143⟩:=Kd.R_slice HO748.out;subst eo143;have hnb144:=NB755_687.out;have hnc144:=NB687_755.out;have hnb145:=NB755_704.out;have hnc145:=NB704_755.out;have hnb146:=NB755_705.out;have hnc146:=NB705_755.out;have hnb147:=NB755_712.out;have hnc147:=NB712_755.out;have hnb148:=NB755_722.out;have hnc148:=NB722_755.out;have hnb149:=NB755_723.out;have hnc149:=NB723_755.out;have hnb150:=NB755_756.out;have hnc150:=NB756_755.out;have hcz151_0:w142.cell? ⟨gb755,0,none⟩=some (.slice none 0 0):=(blk_cell BK755.out 0).trans rfl;have hcz151_1:w142.cell? ⟨gb755,1,none⟩=some (.int .i64 0):=(blk_cell BK755.out 1).trans rfl;have hcz151_2:w142.cell? ⟨gb755,2,none⟩=some (.string (⟨#[]⟩:ByteArray)):=(blk_cell BK755.out 2).trans rfl;have hcz151_3:w142.cell? ⟨gb755,3,none⟩=some (.int .i64 0):=(blk_cell BK755.out 3).trans rfl;have hfz151_0:=blk_frozen BK755.out 0;have hfz151_1:=blk_frozen BK755.out 1;have hfz151_2:=blk_frozen BK755.out 2;have hfz151_3:=blk_frozen BK755.out 3;have hnb152:=NB756_687.out;have hnc152:=NB687_756.out;have hnb153:=NB756_704.out;have hnc153:=NB704_756.out;have hnb154:=NB756_705.out;have hnc154:=NB705_756.out;have hnb155:=NB756_712.out;have hnc155:=NB712_756.out;have hnb156:=NB756_722.out;have hnc156:=NB722_756.out;have hnb157:=NB756_723.out;have hnc157:=NB723_756.out;have hcz158_0:w142.cell? ⟨gb756,0,none⟩=some (.int .i64 0):=(blk_cell BK756.out 0).trans rfl;have hcz158_1:w142.cell? ⟨gb756,1,none⟩=some (.int .i64 0):=(blk_cell BK756.out 1).trans rfl;have hfz158_0:=blk_frozen BK756.out 0;have hfz158_1:=blk_frozen BK756.out 1))
                      (try simp only [Act.put,List.setIfInBounds_toArray,List.set_cons_zero,List.set_cons_succ])
                      go_cut [111] (fun v111 wc=> ∃ (kq:Nat) (x111_122:Bool),v111= .bool x111_122 ∧ Aside0 (laws_FnExactTakeOne.j2 kq t737 x111_122 t738 t716 t717 t718=some r) ∧ Aside0 (kq ≤ kj78) ∧ Aside0 (Kd.R k79 79 wc w.heap.size (fun k_=> some k_ ≠ ((.slice Ao30 t734.length co30):Value).ownBlock ∧ some k_ ≠ ((.slice Ao38 t713.length co38):Value).ownBlock ∧ some k_ ≠ ((.slice Ao143 t746.length co143):Value).ownBlock ∧ k_ ≠ gb705 ∧ k_ ≠ gb723 ∧ k_ ≠ gb756) (.slice Ao21 t695.length co21) t695) ∧ Aside0 (Kd.R k79 79 wc w.heap.size (fun k_=> some k_ ≠ ((.slice Ao21 t695.length co21):Value).ownBlock ∧ some k_ ≠ ((.slice Ao38 t713.length co38):Value).ownBlock ∧ some k_ ≠ ((.slice Ao143 t746.length co143):Value).ownBlock ∧ k_ ≠ gb705 ∧ k_ ≠ gb723 ∧ k_ ≠ gb756) (.slice Ao30 t734.length co30) t734) ∧ Aside0 (Kd.R k79 79 wc w.heap.size (fun k_=> some k_ ≠ ((.slice Ao21 t695.length co21):Value).ownBlock ∧ some k_ ≠ ((.slice Ao30 t734.length co30):Value).ownBlock ∧ some k_ ≠ ((.slice Ao143 t746.length co143):Value).ownBlock ∧ k_ ≠ gb705 ∧ k_ ≠ gb723 ∧ k_ ≠ gb756) (.slice Ao38 t713.length co38) t738) ∧ Aside0 (Kd.R k79 79 wc w.heap.size (fun k_=> some k_ ≠ ((.slice Ao21 t695.length co21):Value).ownBlock ∧ some k_ ≠ ((.slice Ao30 t734.length co30):Value).ownBlock ∧ some k_ ≠ ((.slice Ao38 t713.length co38):Value).ownBlock ∧ k_ ≠ gb705 ∧ k_ ≠ gb723 ∧ k_ ≠ gb756) (.slice Ao143 t746.length co143) t746) ∧ Aside0 (wc.heap[gb687]?=some (.cells #[(.slice A0_0 l0_0.length c0_0),.int .i64 a0_1,.string a0_2,.int .i64 a0_3] 61 (0,0))) ∧ Aside0 (wc.heap[gb704]?=some (.cells #[(.slice Ao21 t695.length co21),.int .i64 t698,.string t699,.int .i64 t700] 36 (0,0))) ∧ Aside0 (wc.heap[gb705]?=some (.cells #[.int .i64 t701,.int .i64 t702] 79 (0,0))) ∧ Aside0 (wc.heap[gb712]?=some (.cells #[(.slice Ao30 t734.length co30),.int .i64 t709,.string t710,.int .i64 t711] 36 (0,0))) ∧ Aside0 (wc.heap[gb722]?=some (.cells #[(.slice Ao38 t713.length co38),.int .i64 t716,.string t717,.int .i64 t718] 36 (0,0))) ∧ Aside0 (wc.heap[gb723]?=some (.cells #[.int .i64 t719,.int .i64 t720] 79 (0,0))) ∧ Aside0 (wc.heap[gb755]?=some (.cells #[(.slice Ao143 t746.length co143),.int .i64 t749,.string t750,.int .i64 t751] 36 (0,0))) ∧ Aside0 (wc.heap[gb756]?=some (.cells #[.int .i64 t752,.int .i64 t753] 79 (0,0))) ∧ Aside0 (Below w.heap.size w wc))
                      case first=>
                        have H:=HC123.out
                        clear HC123
                        replace H:=Option.bind_eq_some_iff.mp H
                        obtain ⟨t757,A1590,H⟩:=H
                        replace H:(if t757=true then ((laws_eqExt.f t752 t753 t701 t702).bind fun t758=> (if t758=true then (laws_FnExactTakeOne.j2 kj78 t737 (t754 !=t703) t738 t716 t717 t718) else (none))) else (none))=some r:=H
                        have A159:=Aside0.mk A1590
                        clear A1590
                        by_cases c160:t757=true
                        · subst c160
                          have H1:((laws_eqExt.f t752 t753 t701 t702).bind fun t758=> (if t758=true then (laws_FnExactTakeOne.j2 kj78 t737 (t754 !=t703) t738 t716 t717 t718) else (none)))=some r:=by rw [if_pos rfl] at H;exact H
                          clear H
                          have H:=H1
                          clear H1
                          replace H:=Option.bind_eq_some_iff.mp H
                          obtain ⟨t758,A1610,H⟩:=H
                          replace H:(if t758=true then (laws_FnExactTakeOne.j2 kj78 t737 (t754 !=t703) t738 t716 t717 t718) else (none))=some r:=H
                          have A161:=Aside0.mk A1610
                          clear A1610
                          by_cases c162:t758=true
                          · subst c162
                            have H1:(laws_FnExactTakeOne.j2 kj78 t737 (t754 !=t703) t738 t716 t717 t718)=some r:=by rw [if_pos rfl] at H;exact H
                            clear H
                            have H:=H1
                            clear H1
                            have H':=Aside0.mk H
                            clear H
                            have hnb163:=NB755_687.out
                            have hnc163:=NB687_755.out
                            have hnb164:=NB755_704.out
                            have hnc164:=NB704_755.out
                            have hnb165:=NB755_705.out
                            have hnc165:=NB705_755.out
                            have hnb166:=NB755_712.out
                            have hnc166:=NB712_755.out
                            have hnb167:=NB755_722.out
                            have hnc167:=NB722_755.out
                            have hnb168:=NB755_723.out
                            have hnc168:=NB723_755.out
                            have hnb169:=NB755_756.out
                            have hnc169:=NB756_755.out
                            have hcz170_0:w142.cell? ⟨gb755,0,none⟩=some (.slice none 0 0):=(blk_cell BK755.out 0).trans rfl
                            have hcz170_1:w142.cell? ⟨gb755,1,none⟩=some (.int .i64 0):=(blk_cell BK755.out 1).trans rfl
                            have hcz170_2:w142.cell? ⟨gb755,2,none⟩=some (.string (⟨#[]⟩:ByteArray)):=(blk_cell BK755.out 2).trans rfl
                            have hcz170_3:w142.cell? ⟨gb755,3,none⟩=some (.int .i64 0):=(blk_cell BK755.out 3).trans rfl
                            have hfz170_0:=blk_frozen BK755.out 0
                            have hfz170_1:=blk_frozen BK755.out 1
                            have hfz170_2:=blk_frozen BK755.out 2
                            have hfz170_3:=blk_frozen BK755.out 3
                            have hnb171:=NB704_687.out
                            have hnc171:=NB687_704.out
                            have hnb172:=NB704_705.out
                            have hnc172:=NB705_704.out
                            have hnb173:=NB704_712.out
                            have hnc173:=NB712_704.out
                            have hnb174:=NB704_722.out
                            have hnc174:=NB722_704.out
                            have hnb175:=NB704_723.out
                            have hnc175:=NB723_704.out
                            have hnb176:=NB704_756.out
                            have hnc176:=NB756_704.out
                            have hcz177_0:w142.cell? ⟨gb704,0,none⟩=some (.slice Ao21 t695.length co21):=(blk_cell BK704.out 0).trans rfl
                            have hcz177_1:w142.cell? ⟨gb704,1,none⟩=some (.int .i64 t698):=(blk_cell BK704.out 1).trans rfl
                            have hcz177_2:w142.cell? ⟨gb704,2,none⟩=some (.string t699):=(blk_cell BK704.out 2).trans rfl
                            have hcz177_3:w142.cell? ⟨gb704,3,none⟩=some (.int .i64 t700):=(blk_cell BK704.out 3).trans rfl
                            have hfz177_0:=blk_frozen BK704.out 0
                            have hfz177_1:=blk_frozen BK704.out 1
                            have hfz177_2:=blk_frozen BK704.out 2
                            have hfz177_3:=blk_frozen BK704.out 3
                            go_wp2_with (first|((with_reducible refine gate_callee (f:=36) rfl ?_);refine goesL_ (some 99) rfl rfl Try.func36 (by kernel_rfl) rfl #[.agg #[.slice Ao143 t746.length co143,.int .i64 t749,.string t750,.int .i64 t751],.agg #[.slice Ao21 t695.length co21,.int .i64 t698,.string t699,.int .i64 t700]] rfl (by (try simp only [List.map_toArray,List.map_cons,List.map_nil]);first|done|rfl|(simp only [List.length_drop,List.length_take];rfl)) ?_;(with_reducible refine (laws_eqSource.calls kj78 _ _ t746 t749 t750 t751 _ _ t695 t698 t699 t700 true _ ?side1 ?side2 ?side3 ?side4 A159.out).mono ?_);(case side1=> refine (Kd.R_reads' (e:=79) (base:=w.heap.size) (ok:=fun k_=> (((((((True ∧ some k_ ≠ (.slice Ao21 t695.length co21:Value).ownBlock) ∧ some k_ ≠ (.slice Ao30 t734.length co30:Value).ownBlock) ∧ some k_ ≠ (.slice Ao38 t713.length co38:Value).ownBlock) ∧ some k_ ≠ (.slice Ao139 t740.length co139:Value).ownBlock) ∧ k_ ≠ gb705) ∧ k_ ≠ gb723) ∧ k_ ≠ gb756)) (n:=t746.length) (c:=co143) ?_).2.2;exact (by (with_reducible repeat (first|apply Kd.R_alloc|apply Kd.R_drewN|apply Kd.R_drew));exact (Kd.R_mono (Kd.R_mono (Kd.R_far (p:=⟨gb756,1,none⟩) (Kd.R_far (p:=⟨gb756,0,none⟩) (Kd.R_far (p:=⟨gb755,3,none⟩) (Kd.R_far (p:=⟨gb755,2,none⟩) (Kd.R_far (p:=⟨gb755,1,none⟩) (Kd.R_far (p:=⟨gb755,0,none⟩) (Kd.R_mono (Kd.R_types HO748.out BK755.out (by decide)) (fun k_ hk=> (⟨hk,hk.1.2⟩:_ ∧ k_ ≠ gb756))) (fun _ hk=> hk.1.2) (.slice Ao143 t746.length co143)) (fun _ hk=> hk.1.2) (.int .i64 t749)) (fun _ hk=> hk.1.2) (.string t750)) (fun _ hk=> hk.1.2) (.int .i64 t751)) (fun _ hk=> hk.2) (.int .i64 t752)) (fun _ hk=> hk.2) (.int .i64 t753)) (fun _ h_=> h_.1)) (fun _ h_=> h_.1))));(case side2=> exact (Kd.R_reads' HO748.out).2.1);(case side3=> refine (Kd.R_reads' (e:=79) (base:=w.heap.size) (ok:=fun k_=> ((((some k_ ≠ (.slice Ao30 t734.length co30:Value).ownBlock ∧ (some k_ ≠ (.slice Ao38 t713.length co38:Value).ownBlock ∧ (k_ ≠ gb705 ∧ k_ ≠ gb723))) ∧ some k_ ≠ (.slice Ao139 t740.length co139:Value).ownBlock) ∧ some k_ ≠ (.slice Ao143 t746.length co143:Value).ownBlock) ∧ k_ ≠ gb756)) (n:=t695.length) (c:=co21) ?_).2.2;exact (by (with_reducible repeat (first|apply Kd.R_alloc|apply Kd.R_drewN|apply Kd.R_drew));exact (Kd.R_mono (Kd.R_mono (Kd.R_far (p:=⟨gb756,1,none⟩) (Kd.R_far (p:=⟨gb756,0,none⟩) (Kd.R_far (p:=⟨gb755,3,none⟩) (Kd.R_far (p:=⟨gb755,2,none⟩) (Kd.R_far (p:=⟨gb755,1,none⟩) (Kd.R_far (p:=⟨gb755,0,none⟩) (Kd.R_mono (Kd.R_types HO_705000.out BK755.out (by decide)) (fun k_ hk=> (⟨hk,hk.1.2⟩:_ ∧ k_ ≠ gb756))) (fun _ hk=> hk.1.2) (.slice Ao143 t746.length co143)) (fun _ hk=> hk.1.2) (.int .i64 t749)) (fun _ hk=> hk.1.2) (.string t750)) (fun _ hk=> hk.1.2) (.int .i64 t751)) (fun _ hk=> hk.2) (.int .i64 t752)) (fun _ hk=> hk.2) (.int .i64 t753)) (fun _ h_=> h_.1)) (fun _ h_=> h_.1))));(case side4=> exact (Kd.R_reads' HO_705000.out).2.1);rintro e w178 ⟨rfl,hb⟩;refine ⟨_,rfl,?_⟩;have n0_:=Aside0.mk (Kd.R_below (by (with_reducible repeat (first|apply Kd.R_alloc|apply Kd.R_drewN|apply Kd.R_drew));exact (Kd.R_mono (Kd.R_mono (Kd.R_far (p:=⟨gb756,1,none⟩) (Kd.R_far (p:=⟨gb756,0,none⟩) (Kd.R_far (p:=⟨gb755,3,none⟩) (Kd.R_far (p:=⟨gb755,2,none⟩) (Kd.R_far (p:=⟨gb755,1,none⟩) (Kd.R_far (p:=⟨gb755,0,none⟩) (Kd.R_mono (Kd.R_types HO_705000.out BK755.out (by decide)) (fun k_ hk=> (⟨hk,hk.1.2⟩:_ ∧ k_ ≠ gb756))) (fun _ hk=> hk.1.2) (.slice Ao143 t746.length co143)) (fun _ hk=> hk.1.2) (.int .i64 t749)) (fun _ hk=> hk.1.2) (.string t750)) (fun _ hk=> hk.1.2) (.int .i64 t751)) (fun _ hk=> hk.2) (.int .i64 t752)) (fun _ hk=> hk.2) (.int .i64 t753)) (fun _ h_=> h_.1)) (fun _ h_=> h_.1))) hb);have n1_:=Aside0.mk (Kd.R_below (by (with_reducible repeat (first|apply Kd.R_alloc|apply Kd.R_drewN|apply Kd.R_drew));exact (Kd.R_mono (Kd.R_mono (Kd.R_far (p:=⟨gb756,1,none⟩) (Kd.R_far (p:=⟨gb756,0,none⟩) (Kd.R_far (p:=⟨gb755,3,none⟩) (Kd.R_far (p:=⟨gb755,2,none⟩) (Kd.R_far (p:=⟨gb755,1,none⟩) (Kd.R_far (p:=⟨gb755,0,none⟩) (Kd.R_mono (Kd.R_types HO_713000.out BK755.out (by decide)) (fun k_ hk=> (⟨hk,hk.1.2⟩:_ ∧ k_ ≠ gb756))) (fun _ hk=> hk.1.2) (.slice Ao143 t746.length co143)) (fun _ hk=> hk.1.2) (.int .i64 t749)) (fun _ hk=> hk.1.2) (.string t750)) (fun _ hk=> hk.1.2) (.int .i64 t751)) (fun _ hk=> hk.2) (.int .i64 t752)) (fun _ hk=> hk.2) (.int .i64 t753)) (fun _ h_=> h_.1)) (fun _ h_=> h_.1))) hb);have n2_:=Aside0.mk (Kd.R_below (by (with_reducible repeat (first|apply Kd.R_alloc|apply Kd.R_drewN|apply Kd.R_drew));exact (Kd.R_mono (Kd.R_mono (Kd.R_far (p:=⟨gb756,1,none⟩) (Kd.R_far (p:=⟨gb756,0,none⟩) (Kd.R_far (p:=⟨gb755,3,none⟩) (Kd.R_far (p:=⟨gb755,2,none⟩) (Kd.R_far (p:=⟨gb755,1,none⟩) (Kd.R_far (p:=⟨gb755,0,none⟩) (Kd.R_mono (Kd.R_types HO_723000.out BK755.out (by decide)) (fun k_ hk=> (⟨hk,hk.1.2⟩:_ ∧ k_ ≠ gb756))) (fun _ hk=> hk.1.2) (.slice Ao143 t746.length co143)) (fun _ hk=> hk.1.2) (.int .i64 t749)) (fun _ hk=> hk.1.2) (.string t750)) (fun _ hk=> hk.1.2) (.int .i64 t751)) (fun _ hk=> hk.2) (.int .i64 t752)) (fun _ hk=> hk.2) (.int .i64 t753)) (fun _ h_=> h_.1)) (fun _ h_=> h_.1))) hb);have n3_:=Aside0.mk (Kd.R_below (by (with_reducible repeat (first|apply Kd.R_alloc|apply Kd.R_drewN|apply Kd.R_drew));exact (Kd.R_mono (Kd.R_mono (Kd.R_far (p:=⟨gb756,1,none⟩) (Kd.R_far (p:=⟨gb756,0,none⟩) (Kd.R_far (p:=⟨gb755,3,none⟩) (Kd.R_far (p:=⟨gb755,2,none⟩) (Kd.R_far (p:=⟨gb755,1,none⟩) (Kd.R_far (p:=⟨gb755,0,none⟩) (Kd.R_mono (Kd.R_types HO742.out BK755.out (by decide)) (fun k_ hk=> (⟨hk,hk.1.2⟩:_ ∧ k_ ≠ gb756))) (fun _ hk=> hk.1.2) (.slice Ao143 t746.length co143)) (fun _ hk=> hk.1.2) (.int .i64 t749)) (fun _ hk=> hk.1.2) (.string t750)) (fun _ hk=> hk.1.2) (.int .i64 t751)) (fun _ hk=> hk.2) (.int .i64 t752)) (fun _ hk=> hk.2) (.int .i64 t753)) (fun _ h_=> h_.1)) (fun _ h_=> h_.1))) hb);have n4_:=Aside0.mk (Kd.R_below (by (with_reducible repeat (first|apply Kd.R_alloc|apply Kd.R_drewN|apply Kd.R_drew));exact (Kd.R_mono (Kd.R_mono (Kd.R_far (p:=⟨gb756,1,none⟩) (Kd.R_far (p:=⟨gb756,0,none⟩) (Kd.R_far (p:=⟨gb755,3,none⟩) (Kd.R_far (p:=⟨gb755,2,none⟩) (Kd.R_far (p:=⟨gb755,1,none⟩) (Kd.R_far (p:=⟨gb755,0,none⟩) (Kd.R_mono (Kd.R_types HO748.out BK755.out (by decide)) (fun k_ hk=> (⟨hk,hk.1.2⟩:_ ∧ k_ ≠ gb756))) (fun _ hk=> hk.1.2) (.slice Ao143 t746.length co143)) (fun _ hk=> hk.1.2) (.int .i64 t749)) (fun _ hk=> hk.1.2) (.string t750)) (fun _ hk=> hk.1.2) (.int .i64 t751)) (fun _ hk=> hk.2) (.int .i64 t752)) (fun _ hk=> hk.2) (.int .i64 t753)) (fun _ h_=> h_.1)) (fun _ h_=> h_.1))) hb);have n5_:=Aside0.mk (blk_below (g:=gb687) (o:= .cells #[.slice A0_0 l0_0.length c0_0,.int .i64 a0_1,.string a0_2,.int .i64 a0_3] 61 (0,0)) (by (with_reducible repeat (first|apply bN|apply bd|apply bA));refine blk_far ?_ NB687_756.out _;(with_reducible repeat (first|apply bN|apply bd|apply bA));refine blk_far ?_ NB687_756.out _;(with_reducible repeat (first|apply bN|apply bd|apply bA));refine blk_far ?_ NB687_755.out _;(with_reducible repeat (first|apply bN|apply bd|apply bA));refine blk_far ?_ NB687_755.out _;(with_reducible repeat (first|apply bN|apply bd|apply bA));refine blk_far ?_ NB687_755.out _;(with_reducible repeat (first|apply bN|apply bd|apply bA));refine blk_far ?_ NB687_755.out _;(with_reducible repeat (first|apply bN|apply bd|apply bA));exact BK687.out) hb);have n6_:=Aside0.mk (blk_below (g:=gb704) (o:= .cells #[.slice Ao21 t695.length co21,.int .i64 t698,.string t699,.int .i64 t700] 36 (0,0)) (by (with_reducible repeat (first|apply bN|apply bd|apply bA));refine blk_far ?_ NB704_756.out _;(with_reducible repeat (first|apply bN|apply bd|apply bA));refine blk_far ?_ NB704_756.out _;(with_reducible repeat (first|apply bN|apply bd|apply bA));refine blk_far ?_ NB704_755.out _;(with_reducible repeat (first|apply bN|apply bd|apply bA));refine blk_far ?_ NB704_755.out _;(with_reducible repeat (first|apply bN|apply bd|apply bA));refine blk_far ?_ NB704_755.out _;(with_reducible repeat (first|apply bN|apply bd|apply bA));refine blk_far ?_ NB704_755.out _;(with_reducible repeat (first|apply bN|apply bd|apply bA));exact BK704.out) hb);have n7_:=Aside0.mk (blk_below (g:=gb705) (o:= .cells #[.int .i64 t701,.int .i64 t702] 79 (0,0)) (by (with_reducible repeat (first|apply bN|apply bd|apply bA));refine blk_far ?_ NB705_756.out _;(with_reducible repeat (first|apply bN|apply bd|apply bA));refine blk_far ?_ NB705_756.out _;(with_reducible repeat (first|apply bN|apply bd|apply bA));refine blk_far ?_ NB705_755.out _;(with_reducible repeat (first|apply bN|apply bd|apply bA));refine blk_far ?_ NB705_755.out _;(with_reducible repeat (first|apply bN|apply bd|apply bA));refine blk_far ?_ NB705_755.out _;(with_reducible repeat (first|apply bN|apply bd|apply bA));refine blk_far ?_ NB705_755.out _;(with_reducible repeat (first|apply bN|apply bd|apply bA));exact BK705.out) hb);have n8_:=Aside0.mk (blk_below (g:=gb712) (o:= .cells #[.slice Ao30 t734.length co30,.int .i64 t709,.string t710,.int .i64 t711] 36 (0,0)) (by (with_reducible repeat (first|apply bN|apply bd|apply bA));refine blk_far ?_ NB712_756.out _;(with_reducible repeat (first|apply bN|apply bd|apply bA));refine blk_far ?_ NB712_756.out _;(with_reducible repeat (first|apply bN|apply bd|apply bA));refine blk_far ?_ NB712_755.out _;(with_reducible repeat (first|apply bN|apply bd|apply bA));refine blk_far ?_ NB712_755.out _;(with_reducible repeat (first|apply bN|apply bd|apply bA));refine blk_far ?_ NB712_755.out _;(with_reducible repeat (first|apply bN|apply bd|apply bA));refine blk_far ?_ NB712_755.out _;(with_reducible repeat (first|apply bN|apply bd|apply bA));exact BK712.out) hb);have n9_:=Aside0.mk (blk_below (g:=gb722) (o:= .cells #[.slice Ao38 t713.length co38,.int .i64 t716,.string t717,.int .i64 t718] 36 (0,0)) (by (with_reducible repeat (first|apply bN|apply bd|apply bA));refine blk_far ?_ NB722_756.out _;(with_reducible repeat (first|apply bN|apply bd|apply bA));refine blk_far ?_ NB722_756.out _;(with_reducible repeat (first|apply bN|apply bd|apply bA));refine blk_far ?_ NB722_755.out _;(with_reducible repeat (first|apply bN|apply bd|apply bA));refine blk_far ?_ NB722_755.out _;(with_reducible repeat (first|apply bN|apply bd|apply bA));refine blk_far ?_ NB722_755.out _;(with_reducible repeat (first|apply bN|apply bd|apply bA));refine blk_far ?_ NB722_755.out _;(with_reducible repeat (first|apply bN|apply bd|apply bA));exact BK722.out) hb);have n10_:=Aside0.mk (blk_below (g:=gb723) (o:= .cells #[.int .i64 t719,.int .i64 t720] 79 (0,0)) (by (with_reducible repeat (first|apply bN|apply bd|apply bA));refine blk_far ?_ NB723_756.out _;(with_reducible repeat (first|apply bN|apply bd|apply bA));refine blk_far ?_ NB723_756.out _;(with_reducible repeat (first|apply bN|apply bd|apply bA));refine blk_far ?_ NB723_755.out _;(with_reducible repeat (first|apply bN|apply bd|apply bA));refine blk_far ?_ NB723_755.out _;(with_reducible repeat (first|apply bN|apply bd|apply bA));refine blk_far ?_ NB723_755.out _;(with_reducible repeat (first|apply bN|apply bd|apply bA));refine blk_far ?_ NB723_755.out _;(with_reducible repeat (first|apply bN|apply bd|apply bA));exact BK723.out) hb);have n11_:=Aside0.mk (blk_below (g:=gb755) (o:= .cells #[.slice Ao143 t746.length co143,.int .i64 t749,.string t750,.int .i64 t751] 36 (0,0)) (by (with_reducible repeat (first|apply bN|apply bd|apply bA));refine blk_far ?_ NB755_756.out _;(with_reducible repeat (first|apply bN|apply bd|apply bA));refine blk_far ?_ NB755_756.out _;(with_reducible repeat (first|apply bN|apply bd|apply bA));refine blk_put (cs:= #[.slice Ao143 t746.length co143,.int .i64 t749,.string t750,.int .i64 0]) ?_ 3 _ rfl;(with_reducible repeat (first|apply bN|apply bd|apply bA));refine blk_put (cs:= #[.slice Ao143 t746.length co143,.int .i64 t749,.string (⟨#[]⟩:ByteArray),.int .i64 0]) ?_ 2 _ rfl;(with_reducible repeat (first|apply bN|apply bd|apply bA));refine blk_put (cs:= #[.slice Ao143 t746.length co143,.int .i64 0,.string (⟨#[]⟩:ByteArray),.int .i64 0]) ?_ 1 _ rfl;(with_reducible repeat (first|apply bN|apply bd|apply bA));refine blk_put (cs:= #[.slice none 0 0,.int .i64 0,.string (⟨#[]⟩:ByteArray),.int .i64 0]) ?_ 0 _ rfl;(with_reducible repeat (first|apply bN|apply bd|apply bA));exact BK755.out) hb);have n12_:=Aside0.mk (blk_below (g:=gb756) (o:= .cells #[.int .i64 t752,.int .i64 t753] 79 (0,0)) (by (with_reducible repeat (first|apply bN|apply bd|apply bA));refine blk_put (cs:= #[.int .i64 t752,.int .i64 0]) ?_ 1 _ rfl;(with_reducible repeat (first|apply bN|apply bd|apply bA));refine blk_put (cs:= #[.int .i64 0,.int .i64 0]) ?_ 0 _ rfl;(with_reducible repeat (first|apply bN|apply bd|apply bA));refine blk_far ?_ NB756_755.out _;(with_reducible repeat (first|apply bN|apply bd|apply bA));refine blk_far ?_ NB756_755.out _;(with_reducible repeat (first|apply bN|apply bd|apply bA));refine blk_far ?_ NB756_755.out _;(with_reducible repeat (first|apply bN|apply bd|apply bA));refine blk_far ?_ NB756_755.out _;(with_reducible repeat (first|apply bN|apply bd|apply bA));exact BK756.out) hb);have n13_:=Aside0.mk (below_step (by repeat (first|(with_reducible first|exact HB.out|apply below_alloc|apply pw_below_drewN|apply below_drew1|refine below_set ?_ GE687.out|refine below_set ?_ GE704.out|refine below_set ?_ GE705.out|refine below_set ?_ GE712.out|refine below_set ?_ GE722.out|refine below_set ?_ GE723.out|refine below_set ?_ GE755.out|refine below_set ?_ GE756.out)|exact HB.out)) hb);clear HO_705000;clear HO_713000;clear HO_723000;clear HO742;clear HO748;clear BK687;clear BK704;clear BK705;clear BK712;clear BK722;clear BK723;clear BK755;clear BK756;clear HB;have HO_705000:=n0_;have HO_713000:=n1_;have HO_723000:=n2_;have HO742:=n3_;have HO748:=n4_;have BK687:=n5_;have BK704:=n6_;have BK705:=n7_;have BK712:=n8_;have BK722:=n9_;have BK723:=n10_;have BK755:=n11_;have BK756:=n12_;have HB:=n13_;clear n0_ n1_ n2_ n3_ n4_ n5_ n6_ n7_ n8_ n9_ n10_ n11_ n12_ n13_;(try clear hb);(try clear hb2);(try clear hk);(try clear hi);have hnb179:=NB756_687.out;have hnc179:=NB687_756.out;have hnb180:=NB756_705.out;have hnc180:=NB705_756.out;have hnb181:=NB756_712.out;have hnc181:=NB712_756.out;have hnb182:=NB756_722.out;have hnc182:=NB722_756.out;have hnb183:=NB756_723.out;have hnc183:=NB723_756.out;have hcz184_0:w178.cell? ⟨gb756,0,none⟩=some (.int .i64 t752):=(blk_cell BK756.out 0).trans rfl;have hcz184_1:w178.cell? ⟨gb756,1,none⟩=some (.int .i64 t753):=(blk_cell BK756.out 1).trans rfl;have hfz184_0:=blk_frozen BK756.out 0;have hfz184_1:=blk_frozen BK756.out 1;have hnb185:=NB705_687.out;have hnc185:=NB687_705.out;have hnb186:=NB705_712.out;have hnc186:=NB712_705.out;have hnb187:=NB705_722.out;have hnc187:=NB722_705.out;have hnb188:=NB705_723.out;have hnc188:=NB723_705.out;have hcz189_0:w178.cell? ⟨gb705,0,none⟩=some (.int .i64 t701):=(blk_cell BK705.out 0).trans rfl;have hcz189_1:w178.cell? ⟨gb705,1,none⟩=some (.int .i64 t702):=(blk_cell BK705.out 1).trans rfl;have hfz189_0:=blk_frozen BK705.out 0;have hfz189_1:=blk_frozen BK705.out 1)|(go_at_call 71;(with_reducible refine (laws_eqExt.calls t752 t753 t701 t702 true _ A161.out).mono ?_);rintro e w190 ⟨rfl,hb⟩;have n0_:=Aside0.mk (Kd.R_below (by (with_reducible repeat (first|apply Kd.R_alloc|apply Kd.R_drewN|apply Kd.R_drew));exact HO_705000.out) hb);have n1_:=Aside0.mk (Kd.R_below (by (with_reducible repeat (first|apply Kd.R_alloc|apply Kd.R_drewN|apply Kd.R_drew));exact HO_713000.out) hb);have n2_:=Aside0.mk (Kd.R_below (by (with_reducible repeat (first|apply Kd.R_alloc|apply Kd.R_drewN|apply Kd.R_drew));exact HO_723000.out) hb);have n3_:=Aside0.mk (Kd.R_below (by (with_reducible repeat (first|apply Kd.R_alloc|apply Kd.R_drewN|apply Kd.R_drew));exact HO742.out) hb);have n4_:=Aside0.mk (Kd.R_below (by (with_reducible repeat (first|apply Kd.R_alloc|apply Kd.R_drewN|apply Kd.R_drew));exact HO748.out) hb);have n5_:=Aside0.mk (blk_below (g:=gb687) (o:= .cells #[.slice A0_0 l0_0.length c0_0,.int .i64 a0_1,.string a0_2,.int .i64 a0_3] 61 (0,0)) (by (with_reducible repeat (first|apply bN|apply bd|apply bA));exact BK687.out) hb);have n6_:=Aside0.mk (blk_below (g:=gb704) (o:= .cells #[.slice Ao21 t695.length co21,.int .i64 t698,.string t699,.int .i64 t700] 36 (0,0)) (by (with_reducible repeat (first|apply bN|apply bd|apply bA));exact BK704.out) hb);have n7_:=Aside0.mk (blk_below (g:=gb705) (o:= .cells #[.int .i64 t701,.int .i64 t702] 79 (0,0)) (by (with_reducible repeat (first|apply bN|apply bd|apply bA));exact BK705.out) hb);have n8_:=Aside0.mk (blk_below (g:=gb712) (o:= .cells #[.slice Ao30 t734.length co30,.int .i64 t709,.string t710,.int .i64 t711] 36 (0,0)) (by (with_reducible repeat (first|apply bN|apply bd|apply bA));exact BK712.out) hb);have n9_:=Aside0.mk (blk_below (g:=gb722) (o:= .cells #[.slice Ao38 t713.length co38,.int .i64 t716,.string t717,.int .i64 t718] 36 (0,0)) (by (with_reducible repeat (first|apply bN|apply bd|apply bA));exact BK722.out) hb);have n10_:=Aside0.mk (blk_below (g:=gb723) (o:= .cells #[.int .i64 t719,.int .i64 t720] 79 (0,0)) (by (with_reducible repeat (first|apply bN|apply bd|apply bA));exact BK723.out) hb);have n11_:=Aside0.mk (blk_below (g:=gb755) (o:= .cells #[.slice Ao143 t746.length co143,.int .i64 t749,.string t750,.int .i64 t751] 36 (0,0)) (by (with_reducible repeat (first|apply bN|apply bd|apply bA));exact BK755.out) hb);have n12_:=Aside0.mk (blk_below (g:=gb756) (o:= .cells #[.int .i64 t752,.int .i64 t753] 79 (0,0)) (by (with_reducible repeat (first|apply bN|apply bd|apply bA));exact BK756.out) hb);have n13_:=Aside0.mk (below_step (by repeat (first|(with_reducible first|exact HB.out|apply below_alloc|apply pw_below_drewN|apply below_drew1|refine below_set ?_ GE687.out|refine below_set ?_ GE704.out|refine below_set ?_ GE705.out|refine below_set ?_ GE712.out|refine below_set ?_ GE722.out|refine below_set ?_ GE723.out|refine below_set ?_ GE755.out|refine below_set ?_ GE756.out)|exact HB.out)) hb);clear HO_705000;clear HO_713000;clear HO_723000;clear HO742;clear HO748;clear BK687;clear BK704;clear BK705;clear BK712;clear BK722;clear BK723;clear BK755;clear BK756;clear HB;have HO_705000:=n0_;have HO_713000:=n1_;have HO_723000:=n2_;have HO742:=n3_;have HO748:=n4_;have BK687:=n5_;have BK704:=n6_;have BK705:=n7_;have BK712:=n8_;have BK722:=n9_;have BK723:=n10_;have BK755:=n11_;have BK756:=n12_;have HB:=n13_;clear n0_ n1_ n2_ n3_ n4_ n5_ n6_ n7_ n8_ n9_ n10_ n11_ n12_ n13_;(try clear hb);(try clear hb2);(try clear hk);(try clear hi)))
                            go_meet
                            case rel=> exact ⟨_,((t754 !=t703)),(by first|rfl|(simp;done)|(simp [*];done)),H',⟨by have:=HJ10.out;have:=HJ78.out;first|omega|exact Nat.le_refl _⟩,⟨by (try simp only [hl713000_78]);(with_reducible repeat (first|apply Kd.R_alloc|apply Kd.R_drewN|apply Kd.R_drew));exact Kd.R_mono HO_705000.out (fun _ hk=> ⟨hk.1.1.1.1,⟨hk.1.1.1.2.1,⟨hk.1.2,⟨hk.1.1.1.2.2.1,⟨hk.1.1.1.2.2.2,hk.2⟩⟩⟩⟩⟩)⟩,⟨by (try simp only [hl713000_78]);(with_reducible repeat (first|apply Kd.R_alloc|apply Kd.R_drewN|apply Kd.R_drew));exact Kd.R_mono HO_713000.out (fun _ hk=> ⟨hk.1.1.1.1,⟨hk.1.1.1.2.1,⟨hk.1.2,⟨hk.1.1.1.2.2.1,⟨hk.1.1.1.2.2.2,hk.2⟩⟩⟩⟩⟩)⟩,⟨by (try simp only [hl713000_78]);(with_reducible repeat (first|apply Kd.R_alloc|apply Kd.R_drewN|apply Kd.R_drew));exact Kd.R_mono HO_723000.out (fun _ hk=> ⟨hk.1.1.1.1,⟨hk.1.1.1.2.1,⟨hk.1.2,⟨hk.1.1.1.2.2.1,⟨hk.1.1.1.2.2.2,hk.2⟩⟩⟩⟩⟩)⟩,⟨by (try simp only [hl713000_78]);(with_reducible repeat (first|apply Kd.R_alloc|apply Kd.R_drewN|apply Kd.R_drew));exact Kd.R_mono HO748.out (fun _ hk=> ⟨hk.1.1.1.1.1.1.2,⟨hk.1.1.1.1.1.2,⟨hk.1.1.1.1.2,⟨hk.1.1.2,⟨hk.1.2,hk.2⟩⟩⟩⟩⟩)⟩,⟨by (try simp only [hl713000_78]);(with_reducible repeat (first|apply bN|apply bd|apply bA));exact BK687.out⟩,⟨by (try simp only [hl713000_78]);(with_reducible repeat (first|apply bN|apply bd|apply bA));exact BK704.out⟩,⟨by (try simp only [hl713000_78]);(with_reducible repeat (first|apply bN|apply bd|apply bA));exact BK705.out⟩,⟨by (try simp only [hl713000_78]);(with_reducible repeat (first|apply bN|apply bd|apply bA));exact BK712.out⟩,⟨by (try simp only [hl713000_78]);(with_reducible repeat (first|apply bN|apply bd|apply bA));exact BK722.out⟩,⟨by (try simp only [hl713000_78]);(with_reducible repeat (first|apply bN|apply bd|apply bA));exact BK723.out⟩,⟨by (try simp only [hl713000_78]);(with_reducible repeat (first|apply bN|apply bd|apply bA));exact BK755.out⟩,⟨by (try simp only [hl713000_78]);(with_reducible repeat (first|apply bN|apply bd|apply bA));exact BK756.out⟩,⟨by repeat (first|(with_reducible first|exact HB.out|apply below_alloc|apply pw_below_drewN|apply below_drew1|refine below_set ?_ GE687.out|refine below_set ?_ GE704.out|refine below_set ?_ GE705.out|refine below_set ?_ GE712.out|refine below_set ?_ GE722.out|refine below_set ?_ GE723.out|refine below_set ?_ GE755.out|refine below_set ?_ GE756.out)|exact HB.out)⟩⟩
                          · replace c162:=Bool.eq_false_iff.mpr c162
                            subst c162
                            have H1:(none)=some r:=by rw [if_neg (show ¬ (false=true) by decide)] at H;exact H
                            clear H
                            have H:=H1
                            clear H1
                            exact absurd H (by simp)
                        · replace c160:=Bool.eq_false_iff.mpr c160
                          subst c160
                          have H1:(none)=some r:=by rw [if_neg (show ¬ (false=true) by decide)] at H;exact H
                          clear H
                          have H:=H1
                          clear H1
                          exact absurd H (by simp)
                      case rest=>
                        clear HC123
                        try clear c1
                        try clear c2
                        try clear p2
                        try clear c3
                        try clear c3b0
                        try clear c4
                        try clear c5
                        try clear c6
                        try clear c7
                        try clear c8
                        try clear c9
                        try clear c10
                        try clear c11
                        try clear c12
                        try clear c13
                        try clear c14
                        try clear c15
                        try clear c16
                        try clear c17
                        try clear c18
                        try clear c22
                        try clear c23
                        try clear c25
                        try clear c31
                        try clear c32
                        try clear c33
                        try clear c36
                        try clear c37
                        try clear c38
                        try clear c39
                        try clear c40
                        try clear c41
                        try clear c42
                        try clear c43
                        try clear c45
                        try clear c46
                        try clear c47
                        try clear c48
                        try clear c51
                        try clear c53
                        try clear c54
                        try clear c55
                        try clear c56
                        try clear c57
                        try clear c58
                        try clear c60
                        try clear c61
                        try clear c62
                        try clear c63
                        try clear c66
                        try clear c67
                        try clear c68
                        try clear c69
                        try clear c70
                        try clear c71
                        try clear c74
                        try clear c77
                        try clear c84
                        try clear c85
                        try clear c86
                        try clear c87
                        try clear c88
                        try clear c91
                        try clear c91b0
                        try clear c93
                        try clear c95
                        try clear c96
                        try clear c97
                        try clear c98
                        try clear c99
                        try clear c100
                        try clear c102
                        try clear c103
                        try clear c104
                        try clear c105
                        try clear c108
                        try clear c109
                        try clear c110
                        try clear c112
                        try clear c113
                        try clear c116
                        try clear c119
                        try clear c119b0
                        try clear c120
                        try clear c120b0
                        try clear c120b1
                        try clear c124
                        try clear c125
                        try clear c126
                        try clear c127
                        try clear c128
                        try clear c133
                        try clear c134
                        try clear c135
                        try clear c136
                        try clear c144
                        try clear c145
                        try clear c146
                        try clear c147
                        try clear c148
                        try clear c149
                        try clear c150
                        try clear c152
                        try clear c153
                        try clear c154
                        try clear c155
                        try clear c156
                        try clear c157
                        try clear c160
                        try clear c162
                        try clear c163
                        try clear c164
                        try clear c165
                        try clear c166
                        try clear c167
                        try clear c168
                        try clear c169
                        try clear c171
                        try clear c172
                        try clear c173
                        try clear c174
                        try clear c175
                        try clear c176
                        try clear c179
                        try clear c180
                        try clear c181
                        try clear c182
                        try clear c183
                        try clear c185
                        try clear c186
                        try clear c187
                        try clear c188
                        try clear hcz101_0
                        try clear hcz101_1
                        try clear hcz101_2
                        try clear hcz101_3
                        try clear hcz106_0
                        try clear hcz106_1
                        try clear hcz106_2
                        try clear hcz106_3
                        try clear hcz111_0
                        try clear hcz111_1
                        try clear hcz114_0
                        try clear hcz114_1
                        try clear hcz129_0
                        try clear hcz129_1
                        try clear hcz129_2
                        try clear hcz129_3
                        try clear hcz131_0
                        try clear hcz131_1
                        try clear hcz131_2
                        try clear hcz131_3
                        try clear hcz137_0
                        try clear hcz137_1
                        try clear hcz137_2
                        try clear hcz137_3
                        try clear hcz13_0
                        try clear hcz13_1
                        try clear hcz13_2
                        try clear hcz13_3
                        try clear hcz151_0
                        try clear hcz151_1
                        try clear hcz151_2
                        try clear hcz151_3
                        try clear hcz158_0
                        try clear hcz158_1
                        try clear hcz15_0
                        try clear hcz15_1
                        try clear hcz15_2
                        try clear hcz15_3
                        try clear hcz170_0
                        try clear hcz170_1
                        try clear hcz170_2
                        try clear hcz170_3
                        try clear hcz177_0
                        try clear hcz177_1
                        try clear hcz177_2
                        try clear hcz177_3
                        try clear hcz184_0
                        try clear hcz184_1
                        try clear hcz189_0
                        try clear hcz189_1
                        try clear hcz24_0
                        try clear hcz24_1
                        try clear hcz24_2
                        try clear hcz24_3
                        try clear hcz26_0
                        try clear hcz26_1
                        try clear hcz27_0
                        try clear hcz27_1
                        try clear hcz27_2
                        try clear hcz27_3
                        try clear hcz34_0
                        try clear hcz34_1
                        try clear hcz34_2
                        try clear hcz34_3
                        try clear hcz44_0
                        try clear hcz44_1
                        try clear hcz44_2
                        try clear hcz44_3
                        try clear hcz49_0
                        try clear hcz49_1
                        try clear hcz59_0
                        try clear hcz59_1
                        try clear hcz59_2
                        try clear hcz59_3
                        try clear hcz5_0
                        try clear hcz5_1
                        try clear hcz5_2
                        try clear hcz5_3
                        try clear hcz64_0
                        try clear hcz64_1
                        try clear hcz64_2
                        try clear hcz64_3
                        try clear hcz69_0
                        try clear hcz69_1
                        try clear hcz72_0
                        try clear hcz72_1
                        try clear hcz89_0
                        try clear hcz89_1
                        try clear hcz89_2
                        try clear hcz89_3
                        try clear hfz101_0
                        try clear hfz101_1
                        try clear hfz101_2
                        try clear hfz101_3
                        try clear hfz106_0
                        try clear hfz106_1
                        try clear hfz106_2
                        try clear hfz106_3
                        try clear hfz111_0
                        try clear hfz111_1
                        try clear hfz114_0
                        try clear hfz114_1
                        try clear hfz129_0
                        try clear hfz129_1
                        try clear hfz129_2
                        try clear hfz129_3
                        try clear hfz131_0
                        try clear hfz131_1
                        try clear hfz131_2
                        try clear hfz131_3
                        try clear hfz137_0
                        try clear hfz137_1
                        try clear hfz137_2
                        try clear hfz137_3
                        try clear hfz13_0
                        try clear hfz13_1
                        try clear hfz13_2
                        try clear hfz13_3
                        try clear hfz151_0
                        try clear hfz151_1
                        try clear hfz151_2
                        try clear hfz151_3
                        try clear hfz158_0
                        try clear hfz158_1
                        try clear hfz15_0
                        try clear hfz15_1
                        try clear hfz15_2
                        try clear hfz15_3
                        try clear hfz170_0
                        try clear hfz170_1
                        try clear hfz170_2
                        try clear hfz170_3
                        try clear hfz177_0
                        try clear hfz177_1
                        try clear hfz177_2
                        try clear hfz177_3
                        try clear hfz184_0
                        try clear hfz184_1
                        try clear hfz189_0
                        try clear hfz189_1
                        try clear hfz24_0
                        try clear hfz24_1
                        try clear hfz24_2
                        try clear hfz24_3
                        try clear hfz26_0
                        try clear hfz26_1
                        try clear hfz27_0
                        try clear hfz27_1
                        try clear hfz27_2
                        try clear hfz27_3
                        try clear hfz34_0
                        try clear hfz34_1
                        try clear hfz34_2
                        try clear hfz34_3
                        try clear hfz44_0
                        try clear hfz44_1
                        try clear hfz44_2
                        try clear hfz44_3
                        try clear hfz49_0
                        try clear hfz49_1
                        try clear hfz59_0
                        try clear hfz59_1
                        try clear hfz59_2
                        try clear hfz59_3
                        try clear hfz5_0
                        try clear hfz5_1
                        try clear hfz5_2
                        try clear hfz5_3
                        try clear hfz64_0
                        try clear hfz64_1
                        try clear hfz64_2
                        try clear hfz64_3
                        try clear hfz69_0
                        try clear hfz69_1
                        try clear hfz72_0
                        try clear hfz72_1
                        try clear hfz89_0
                        try clear hfz89_1
                        try clear hfz89_2
                        try clear hfz89_3
                        try clear p2
                        obtain ⟨kq,x111_122,rfl,HA,HJ122,HO_705000,HO_713000,HO_723000,HO_756000,BK687,BK704,BK705,BK712,BK722,BK723,BK755,BK756,HB⟩:=hcut
                        have hl723000_122:=(Kd.R_reads' HO_723000.out).1
                        rw [hl723000_122] at HO_723000
                        (try simp only [hl723000_122])
                        (try simp only [hl723000_122] at BK687)
                        (try simp only [hl723000_122] at BK704)
                        (try simp only [hl723000_122] at BK705)
                        (try simp only [hl723000_122] at BK712)
                        (try simp only [hl723000_122] at BK722)
                        (try simp only [hl723000_122] at BK723)
                        (try simp only [hl723000_122] at BK755)
                        (try simp only [hl723000_122] at BK756)
                        (try simp only [hl723000_122] at HO_705000)
                        (try simp only [hl723000_122] at HO_713000)
                        (try simp only [hl723000_122] at HO_756000)
                        cases kq with
                        |zero=> exact absurd HA.out (by simp [laws_FnExactTakeOne.j2])
                        |succ kj122=>
                          have H:=HA.out
                          clear HA
                          simp only [laws_FnExactTakeOne.j2] at H
                          by_cases c191:x111_122=true
                          · subst c191
                            have H1:(none)=some r:=by rw [if_pos rfl] at H;exact H
                            clear H
                            have H:=H1
                            clear H1
                            exact absurd H (by simp)
                          · replace c191:=Bool.eq_false_iff.mpr c191
                            subst c191
                            have H1:((laws_heldSource.f kj122 t738 t716 t717 t718 1).bind fun t759=> (if t759 < 0 then (none) else (if t759=t737 then (some true) else (none))))=some r:=by rw [if_neg (show ¬ (false=true) by decide)] at H;exact H
                            clear H
                            have H:=H1
                            clear H1
                            replace H:=Option.bind_eq_some_iff.mp H
                            obtain ⟨t759,A1920,H⟩:=H
                            replace H:(if t759 < 0 then (none) else (if t759=t737 then (some true) else (none)))=some r:=H
                            have A192:=Aside0.mk A1920
                            clear A1920
                            by_cases c193:t759 < 0
                            · rw [if_pos c193] at H
                              exact absurd H (by simp)
                            · rw [if_neg c193] at H
                              have c193b0:decide (t759 < 0)=false:=decide_eq_false c193
                              clear c193
                              by_cases c194:t759=t737
                              · rw [if_pos c194] at H
                                have c194b0:(t759==t737)=true:=beq_iff_eq.mpr c194
                                have c194b1:(t759 !=t737)=false:=bne_eq_false_iff_eq.mpr c194
                                clear c194
                                obtain rfl:=Option.some.inj H
                                have hnb195:=NB722_687.out
                                have hnc195:=NB687_722.out
                                have hnb196:=NB722_704.out
                                have hnc196:=NB704_722.out
                                have hnb197:=NB722_705.out
                                have hnc197:=NB705_722.out
                                have hnb198:=NB722_712.out
                                have hnc198:=NB712_722.out
                                have hnb199:=NB722_723.out
                                have hnc199:=NB723_722.out
                                have hnb200:=NB722_755.out
                                have hnc200:=NB755_722.out
                                have hnb201:=NB722_756.out
                                have hnc201:=NB756_722.out
                                have hcz202_0:wc.cell? ⟨gb722,0,none⟩=some (.slice Ao38 t738.length co38):=(blk_cell BK722.out 0).trans rfl
                                have hcz202_1:wc.cell? ⟨gb722,1,none⟩=some (.int .i64 t716):=(blk_cell BK722.out 1).trans rfl
                                have hcz202_2:wc.cell? ⟨gb722,2,none⟩=some (.string t717):=(blk_cell BK722.out 2).trans rfl
                                have hcz202_3:wc.cell? ⟨gb722,3,none⟩=some (.int .i64 t718):=(blk_cell BK722.out 3).trans rfl
                                have hfz202_0:=blk_frozen BK722.out 0
                                have hfz202_1:=blk_frozen BK722.out 1
                                have hfz202_2:=blk_frozen BK722.out 2
                                have hfz202_3:=blk_frozen BK722.out 3
                                go_wp2_with (first|((with_reducible refine gate_callee (f:=38) rfl ?_);refine goesL_ (some 114) rfl rfl Try.func38 (by kernel_rfl) rfl #[.agg #[.slice Ao38 t738.length co38,.int .i64 t716,.string t717,.int .i64 t718],.int .i64 1] rfl (by (try simp only [List.map_toArray,List.map_cons,List.map_nil]);first|done|rfl|(simp only [List.length_drop,List.length_take];rfl)) ?_;(with_reducible refine (laws_heldSource.calls kj122 _ _ t738 t716 t717 t718 1 t759 _ ?side1 ?side2 A192.out).mono ?_);(case side1=> repeat (first|exact (Kd.R_reads' HO_723000.out).2.2|(with_reducible refine Kd.C_alloc ?_ _)|(with_reducible refine Kd.C_drewN ?_ _)|(with_reducible refine Kd.C_drew ?_)));(case side2=> exact (Kd.R_reads' HO_723000.out).2.1);rintro e w203 ⟨rfl,hb⟩;refine ⟨_,rfl,?_⟩;have n0_:=Aside0.mk (Kd.R_below (by (with_reducible repeat (first|apply Kd.R_alloc|apply Kd.R_drewN|apply Kd.R_drew));exact HO_705000.out) hb);have n1_:=Aside0.mk (Kd.R_below (by (with_reducible repeat (first|apply Kd.R_alloc|apply Kd.R_drewN|apply Kd.R_drew));exact HO_713000.out) hb);have n2_:=Aside0.mk (Kd.R_below (by (with_reducible repeat (first|apply Kd.R_alloc|apply Kd.R_drewN|apply Kd.R_drew));exact HO_723000.out) hb);have n3_:=Aside0.mk (Kd.R_below (by (with_reducible repeat (first|apply Kd.R_alloc|apply Kd.R_drewN|apply Kd.R_drew));exact HO_756000.out) hb);have n4_:=Aside0.mk (blk_below (g:=gb687) (o:= .cells #[.slice A0_0 l0_0.length c0_0,.int .i64 a0_1,.string a0_2,.int .i64 a0_3] 61 (0,0)) (by (with_reducible repeat (first|apply bN|apply bd|apply bA));exact BK687.out) hb);have n5_:=Aside0.mk (blk_below (g:=gb704) (o:= .cells #[.slice Ao21 t695.length co21,.int .i64 t698,.string t699,.int .i64 t700] 36 (0,0)) (by (with_reducible repeat (first|apply bN|apply bd|apply bA));exact BK704.out) hb);have n6_:=Aside0.mk (blk_below (g:=gb705) (o:= .cells #[.int .i64 t701,.int .i64 t702] 79 (0,0)) (by (with_reducible repeat (first|apply bN|apply bd|apply bA));exact BK705.out) hb);have n7_:=Aside0.mk (blk_below (g:=gb712) (o:= .cells #[.slice Ao30 t734.length co30,.int .i64 t709,.string t710,.int .i64 t711] 36 (0,0)) (by (with_reducible repeat (first|apply bN|apply bd|apply bA));exact BK712.out) hb);have n8_:=Aside0.mk (blk_below (g:=gb722) (o:= .cells #[.slice Ao38 t738.length co38,.int .i64 t716,.string t717,.int .i64 t718] 36 (0,0)) (by (with_reducible repeat (first|apply bN|apply bd|apply bA));exact BK722.out) hb);have n9_:=Aside0.mk (blk_below (g:=gb723) (o:= .cells #[.int .i64 t719,.int .i64 t720] 79 (0,0)) (by (with_reducible repeat (first|apply bN|apply bd|apply bA));exact BK723.out) hb);have n10_:=Aside0.mk (blk_below (g:=gb755) (o:= .cells #[.slice Ao143 t746.length co143,.int .i64 t749,.string t750,.int .i64 t751] 36 (0,0)) (by (with_reducible repeat (first|apply bN|apply bd|apply bA));exact BK755.out) hb);have n11_:=Aside0.mk (blk_below (g:=gb756) (o:= .cells #[.int .i64 t752,.int .i64 t753] 79 (0,0)) (by (with_reducible repeat (first|apply bN|apply bd|apply bA));exact BK756.out) hb);have n12_:=Aside0.mk (below_step (by repeat (first|(with_reducible first|exact HB.out|apply below_alloc|apply pw_below_drewN|apply below_drew1|refine below_set ?_ GE687.out|refine below_set ?_ GE704.out|refine below_set ?_ GE705.out|refine below_set ?_ GE712.out|refine below_set ?_ GE722.out|refine below_set ?_ GE723.out|refine below_set ?_ GE755.out|refine below_set ?_ GE756.out)|exact HB.out)) hb);clear HO_705000;clear HO_713000;clear HO_723000;clear HO_756000;clear BK687;clear BK704;clear BK705;clear BK712;clear BK722;clear BK723;clear BK755;clear BK756;clear HB;have HO_705000:=n0_;have HO_713000:=n1_;have HO_723000:=n2_;have HO_756000:=n3_;have BK687:=n4_;have BK704:=n5_;have BK705:=n6_;have BK712:=n7_;have BK722:=n8_;have BK723:=n9_;have BK755:=n10_;have BK756:=n11_;have HB:=n12_;clear n0_ n1_ n2_ n3_ n4_ n5_ n6_ n7_ n8_ n9_ n10_ n11_ n12_;(try clear hb);(try clear hb2);(try clear hk);(try clear hi)))
                                go_ret
                                exact ⟨by first|rfl|(simp [errW_none,errW_some] <;> rfl)|(simp [*,errW_none,errW_some] <;> rfl),by repeat (first|(with_reducible first|exact HB.out|apply below_alloc|apply pw_below_drewN|apply below_drew1|refine below_set ?_ GE687.out|refine below_set ?_ GE704.out|refine below_set ?_ GE705.out|refine below_set ?_ GE712.out|refine below_set ?_ GE722.out|refine below_set ?_ GE723.out|refine below_set ?_ GE755.out|refine below_set ?_ GE756.out)|exact HB.out)⟩
                              · rw [if_neg c194] at H
                                exact absurd H (by simp)
                    · rw [if_neg c120] at H
                      exact absurd H (by simp)
          · replace c77:=Bool.eq_false_iff.mpr c77
            subst c77
            have H1:(none)=some r:=by rw [if_neg (show ¬ (false=true) by decide)] at H;exact H
            clear H
            have H:=H1
            clear H1
            exact absurd H (by simp)
end Go.Proofs.Ytlogocmojnhpbaa.Print
