-- Packed by a program of this session (slim.py) out of printed texts; not trusted, Lean checks it.
import Derived.Test.YtlogocmojnhpbaaP0
import Derived.Test.YtlogocmojnhpbaaQFnExactTakePlaces2
import Derived.Test.YtlogocmojnhpbaaQFnExactTakePlaces3
import Derived.Test.YtlogocmojnhpbaaQFnExactTakePlaces4
import Derived.Test.YtlogocmojnhpbaaQFnExactTakePlaces8
namespace Go.Proofs.Ytlogocmojnhpbaa.Print
open Go.RowKit Go.Proofs.YtlogocmojnhpbaaW.PrintWords Go.Proofs.YtlogocmojnhpbaaW.PrintLast Go.Proofs.YtlogocmojnhpbaaW.PrintMore
attribute [local go_sem] max2_int min2_int max_two min_two max_three min_three max_four min_four
set_option linter.unusedVariables false
set_option linter.unusedSimpArgs false
mutual
def laws_FnExactTakePlaces.j0:Nat → Int → Int → List Int → Int → List Int → Int → Bool → List (S125) → Int → ByteArray → Int → List (S79) → Int → ByteArray → Int → List (S79) → Int → ByteArray → Int → List (S79) → Int → ByteArray → Int → Option (Bool)
  |0,_,_,_,_,_,_,_,_,_,_,_,_,_,_,_,_,_,_,_,_,_,_,_=> none
  |k + 1,x1,x2,x9,x10,x13,x14,x59,x979000,x979001,x979002,x979003,x997000,x997001,x997002,x997003,x1004000,x1004001,x1004002,x1004003,x1015000,x1015001,x1015002,x1015003=> if x59=true then (none) else ((laws_toSource.f k x979000 x979001 x979002 x979003).bind fun bt1017=> ((laws_eqSource.f k x1004000 x1004001 x1004002 x1004003 bt1017.1 bt1017.2.1 bt1017.2.2.1 bt1017.2.2.2).bind fun t1023=> (if t1023=true then ((laws_markSource.f k x1004000 x1004001 x1004002 x1004003 1).bind fun bt1024=> (if bt1024.1 < 0 then (none) else ((laws_eqSource.f k x1015000 x1015001 x1015002 x1015003 x997000 x997001 x997002 x997003).bind fun t1026=> (if t1026=true then ((laws_eqIntS.f k x13 x9).bind fun t1027=> (if t1027=true then (laws_FnExactTakePlaces.j1 k x1 x2 x9 x10 x13 (x14 !=x10) x979000 x979001 x979002 x979003 x997000 x997001 x997002 x997003 x1015000 x1015001 x1015002 x1015003) else (none))) else (none))))) else (none))))
def laws_FnExactTakePlaces.j1:Nat → Int → Int → List Int → Int → List Int → Bool → List (S125) → Int → ByteArray → Int → List (S79) → Int → ByteArray → Int → List (S79) → Int → ByteArray → Int → Option (Bool)
  |0,_,_,_,_,_,_,_,_,_,_,_,_,_,_,_,_,_,_=> none
  |k + 1,x1,x2,x9,x10,x13,x86,x979000,x979001,x979002,x979003,x997000,x997001,x997002,x997003,x1015000,x1015001,x1015002,x1015003=> if x86=true then (none) else ((laws_markSource.f k x1015000 x1015001 x1015002 x1015003 1).bind fun bt1028=> ((laws_markIntS.f k x13 bt1028.1).bind fun bt1030=> ((laws_heldSource.f k bt1028.2 x1015001 x1015002 x1015003 1).bind fun t1032=> (if t1032 < 0 then (none) else ((laws_heldIntS.f k bt1030.2 t1032).bind fun t1033=> (if t1033 < 0 then (none) else (if t1033=bt1030.1 then ((laws_toSource.f k x979000 x979001 x979002 x979003).bind fun bt1034=> ((impl_TakePlaces.f k bt1034.1 bt1034.2.1 bt1034.2.2.1 bt1034.2.2.2 x1 x2).bind fun bt1040=> ((laws_eqSource.f k bt1040.1 bt1040.2.1 bt1040.2.2.1 bt1040.2.2.2.1 x997000 x997001 x997002 x997003).bind fun t1051=> (if t1051=true then ((laws_eqIntS.f k bt1040.2.2.2.2.1 x9).bind fun t1052=> (if t1052=true then (laws_FnExactTakePlaces.j2 k bt1030.2 bt1030.1 (bt1040.2.2.2.2.2 !=x10) bt1028.2 x1015001 x1015002 x1015003) else (none))) else (none))))) else (none))))))))
def laws_FnExactTakePlaces.j2:Nat → List Int → Int → Bool → List (S79) → Int → ByteArray → Int → Option (Bool)
  |0,_,_,_,_,_,_,_=> none
  |k + 1,x13,x16,x129,x1015000,x1015001,x1015002,x1015003=> if x129=true then (none) else ((laws_heldSource.f k x1015000 x1015001 x1015002 x1015003 1).bind fun t1053=> (if t1053 < 0 then (none) else ((laws_heldIntS.f k x13 t1053).bind fun t1054=> (if t1054 < 0 then (none) else (if t1054=x16 then (some true) else (none))))))
end
def laws_FnExactTakePlaces.f (k:Nat) (l0_0:List (S125)) (a0_1:Int) (a0_2:ByteArray) (a0_3:Int) (a1:Int) (a2:Int):Option (Bool):=(laws_szSource.f l0_0 a0_1 a0_2 a0_3 1048576).bind fun t979=> (if t979 < 0 then (some true) else ((laws_toSource.f k l0_0 a0_1 a0_2 a0_3).bind fun bt980=> ((spec_TakePlaces.f k bt980.1 bt980.2.1 bt980.2.2.1 bt980.2.2.2 a1 a2).bind fun bt986=> ((laws_toSource.f k l0_0 a0_1 a0_2 a0_3).bind fun bt997=> ((impl_TakePlaces.f k bt997.1 bt997.2.1 bt997.2.2.1 bt997.2.2.2 a1 a2).bind fun bt1004=> ((laws_eqSource.f k bt1004.1 bt1004.2.1 bt1004.2.2.1 bt1004.2.2.2.1 bt986.1 bt986.2.1 bt986.2.2.1 bt986.2.2.2.1).bind fun t1015=> (if t1015=true then ((laws_eqIntS.f k bt1004.2.2.2.2.1 bt986.2.2.2.2.1).bind fun t1016=> (if t1016=true then (laws_FnExactTakePlaces.j0 k a1 a2 bt986.2.2.2.2.1 bt986.2.2.2.2.2 bt1004.2.2.2.2.1 bt1004.2.2.2.2.2 (bt1004.2.2.2.2.2 !=bt986.2.2.2.2.2) l0_0 a0_1 a0_2 a0_3 bt986.1 bt986.2.1 bt986.2.2.1 bt986.2.2.2.1 bt997.1 bt997.2.1 bt997.2.2.1 bt997.2.2.2 bt1004.1 bt1004.2.1 bt1004.2.2.1 bt1004.2.2.2.1) else (none))) else (none))))))))
theorem laws_FnExactTakePlaces.mono_l:∀ k,(∀ y0 y1 y2 y3 y4 y5 y6 y7 y8 y9 y10 y11 y12 y13 y14 y15 y16 y17 y18 y19 y20 y21 y22,LeO (laws_FnExactTakePlaces.j0 k y0 y1 y2 y3 y4 y5 y6 y7 y8 y9 y10 y11 y12 y13 y14 y15 y16 y17 y18 y19 y20 y21 y22) (laws_FnExactTakePlaces.j0 (k + 1) y0 y1 y2 y3 y4 y5 y6 y7 y8 y9 y10 y11 y12 y13 y14 y15 y16 y17 y18 y19 y20 y21 y22)) ∧ (∀ y0 y1 y2 y3 y4 y5 y6 y7 y8 y9 y10 y11 y12 y13 y14 y15 y16 y17,LeO (laws_FnExactTakePlaces.j1 k y0 y1 y2 y3 y4 y5 y6 y7 y8 y9 y10 y11 y12 y13 y14 y15 y16 y17) (laws_FnExactTakePlaces.j1 (k + 1) y0 y1 y2 y3 y4 y5 y6 y7 y8 y9 y10 y11 y12 y13 y14 y15 y16 y17)) ∧ (∀ y0 y1 y2 y3 y4 y5 y6,LeO (laws_FnExactTakePlaces.j2 k y0 y1 y2 y3 y4 y5 y6) (laws_FnExactTakePlaces.j2 (k + 1) y0 y1 y2 y3 y4 y5 y6))
  |0=> ⟨fun _ _ _ _ _ _ _ _ _ _ _ _ _ _ _ _ _ _ _ _ _ _ _ r h=> by simp [laws_FnExactTakePlaces.j0] at h,fun _ _ _ _ _ _ _ _ _ _ _ _ _ _ _ _ _ _ r h=> by simp [laws_FnExactTakePlaces.j1] at h,fun _ _ _ _ _ _ _ r h=> by simp [laws_FnExactTakePlaces.j2] at h⟩
  |k + 1=> by
    obtain ⟨ih0,ih1,ih2⟩:=laws_FnExactTakePlaces.mono_l k
    refine ⟨?_,?_,?_⟩
    · intro y0 y1 y2 y3 y4 y5 y6 y7 y8 y9 y10 y11 y12 y13 y14 y15 y16 y17 y18 y19 y20 y21 y22
      unfold laws_FnExactTakePlaces.j0
      repeat' first
      |(with_reducible exact ih0 _ _ _ _ _ _ _ _ _ _ _ _ _ _ _ _ _ _ _ _ _ _ _)
      |(with_reducible exact ih1 _ _ _ _ _ _ _ _ _ _ _ _ _ _ _ _ _ _)
      |(with_reducible exact ih2 _ _ _ _ _ _ _)
      |(with_reducible exact impl_TakePlaces.mono _ _ _ _ _ _ _)
      |(with_reducible exact laws_eqIntS.mono _ _ _)
      |(with_reducible exact laws_eqSource.mono _ _ _ _ _ _ _ _ _)
      |(with_reducible exact laws_heldIntS.mono _ _ _)
      |(with_reducible exact laws_heldSource.mono _ _ _ _ _ _)
      |(with_reducible exact laws_markIntS.mono _ _ _)
      |(with_reducible exact laws_markSource.mono _ _ _ _ _ _)
      |(with_reducible exact laws_toSource.mono _ _ _ _ _)
      |(with_reducible exact spec_TakePlaces.mono _ _ _ _ _ _ _)
      |(with_reducible exact LeO.refl _)
      |(with_reducible exact LeO.none _)
      |(with_reducible refine LeO.ite ?_ ?_)
      |(with_reducible refine LeO.bind ?_ (fun _=> ?_))
      |exact ih0 _ _ _ _ _ _ _ _ _ _ _ _ _ _ _ _ _ _ _ _ _ _ _
      |exact ih1 _ _ _ _ _ _ _ _ _ _ _ _ _ _ _ _ _ _
      |exact ih2 _ _ _ _ _ _ _
      |exact impl_TakePlaces.mono _ _ _ _ _ _ _
      |exact laws_eqIntS.mono _ _ _
      |exact laws_eqSource.mono _ _ _ _ _ _ _ _ _
      |exact laws_heldIntS.mono _ _ _
      |exact laws_heldSource.mono _ _ _ _ _ _
      |exact laws_markIntS.mono _ _ _
      |exact laws_markSource.mono _ _ _ _ _ _
      |exact laws_toSource.mono _ _ _ _ _
      |exact spec_TakePlaces.mono _ _ _ _ _ _ _
      |exact LeO.none _
      |refine LeO.ite ?_ ?_
      |refine LeO.bind ?_ (fun _=> ?_)
    · intro y0 y1 y2 y3 y4 y5 y6 y7 y8 y9 y10 y11 y12 y13 y14 y15 y16 y17
      unfold laws_FnExactTakePlaces.j1
      repeat' first
      |(with_reducible exact ih0 _ _ _ _ _ _ _ _ _ _ _ _ _ _ _ _ _ _ _ _ _ _ _)
      |(with_reducible exact ih1 _ _ _ _ _ _ _ _ _ _ _ _ _ _ _ _ _ _)
      |(with_reducible exact ih2 _ _ _ _ _ _ _)
      |(with_reducible exact impl_TakePlaces.mono _ _ _ _ _ _ _)
      |(with_reducible exact laws_eqIntS.mono _ _ _)
      |(with_reducible exact laws_eqSource.mono _ _ _ _ _ _ _ _ _)
      |(with_reducible exact laws_heldIntS.mono _ _ _)
      |(with_reducible exact laws_heldSource.mono _ _ _ _ _ _)
      |(with_reducible exact laws_markIntS.mono _ _ _)
      |(with_reducible exact laws_markSource.mono _ _ _ _ _ _)
      |(with_reducible exact laws_toSource.mono _ _ _ _ _)
      |(with_reducible exact spec_TakePlaces.mono _ _ _ _ _ _ _)
      |(with_reducible exact LeO.refl _)
      |(with_reducible exact LeO.none _)
      |(with_reducible refine LeO.ite ?_ ?_)
      |(with_reducible refine LeO.bind ?_ (fun _=> ?_))
      |exact ih0 _ _ _ _ _ _ _ _ _ _ _ _ _ _ _ _ _ _ _ _ _ _ _
      |exact ih1 _ _ _ _ _ _ _ _ _ _ _ _ _ _ _ _ _ _
      |exact ih2 _ _ _ _ _ _ _
      |exact impl_TakePlaces.mono _ _ _ _ _ _ _
      |exact laws_eqIntS.mono _ _ _
      |exact laws_eqSource.mono _ _ _ _ _ _ _ _ _
      |exact laws_heldIntS.mono _ _ _
      |exact laws_heldSource.mono _ _ _ _ _ _
      |exact laws_markIntS.mono _ _ _
      |exact laws_markSource.mono _ _ _ _ _ _
      |exact laws_toSource.mono _ _ _ _ _
      |exact spec_TakePlaces.mono _ _ _ _ _ _ _
      |exact LeO.none _
      |refine LeO.ite ?_ ?_
      |refine LeO.bind ?_ (fun _=> ?_)
    · intro y0 y1 y2 y3 y4 y5 y6
      unfold laws_FnExactTakePlaces.j2
      repeat' first
      |(with_reducible exact ih0 _ _ _ _ _ _ _ _ _ _ _ _ _ _ _ _ _ _ _ _ _ _ _)
      |(with_reducible exact ih1 _ _ _ _ _ _ _ _ _ _ _ _ _ _ _ _ _ _)
      |(with_reducible exact ih2 _ _ _ _ _ _ _)
      |(with_reducible exact impl_TakePlaces.mono _ _ _ _ _ _ _)
      |(with_reducible exact laws_eqIntS.mono _ _ _)
      |(with_reducible exact laws_eqSource.mono _ _ _ _ _ _ _ _ _)
      |(with_reducible exact laws_heldIntS.mono _ _ _)
      |(with_reducible exact laws_heldSource.mono _ _ _ _ _ _)
      |(with_reducible exact laws_markIntS.mono _ _ _)
      |(with_reducible exact laws_markSource.mono _ _ _ _ _ _)
      |(with_reducible exact laws_toSource.mono _ _ _ _ _)
      |(with_reducible exact spec_TakePlaces.mono _ _ _ _ _ _ _)
      |(with_reducible exact LeO.refl _)
      |(with_reducible exact LeO.none _)
      |(with_reducible refine LeO.ite ?_ ?_)
      |(with_reducible refine LeO.bind ?_ (fun _=> ?_))
      |exact ih0 _ _ _ _ _ _ _ _ _ _ _ _ _ _ _ _ _ _ _ _ _ _ _
      |exact ih1 _ _ _ _ _ _ _ _ _ _ _ _ _ _ _ _ _ _
      |exact ih2 _ _ _ _ _ _ _
      |exact impl_TakePlaces.mono _ _ _ _ _ _ _
      |exact laws_eqIntS.mono _ _ _
      |exact laws_eqSource.mono _ _ _ _ _ _ _ _ _
      |exact laws_heldIntS.mono _ _ _
      |exact laws_heldSource.mono _ _ _ _ _ _
      |exact laws_markIntS.mono _ _ _
      |exact laws_markSource.mono _ _ _ _ _ _
      |exact laws_toSource.mono _ _ _ _ _
      |exact spec_TakePlaces.mono _ _ _ _ _ _ _
      |exact LeO.none _
      |refine LeO.ite ?_ ?_
      |refine LeO.bind ?_ (fun _=> ?_)
theorem laws_FnExactTakePlaces.mono:∀ a0 a1 a2 a3 a4 a5 k,LeO (laws_FnExactTakePlaces.f k a0 a1 a2 a3 a4 a5) (laws_FnExactTakePlaces.f (k + 1) a0 a1 a2 a3 a4 a5):=by
  intro a0 a1 a2 a3 a4 a5 k
  obtain ⟨ih0,ih1,ih2⟩:=laws_FnExactTakePlaces.mono_l k
  unfold laws_FnExactTakePlaces.f
  repeat' first
      |(with_reducible exact ih0 _ _ _ _ _ _ _ _ _ _ _ _ _ _ _ _ _ _ _ _ _ _ _)
      |(with_reducible exact ih1 _ _ _ _ _ _ _ _ _ _ _ _ _ _ _ _ _ _)
      |(with_reducible exact ih2 _ _ _ _ _ _ _)
      |(with_reducible exact impl_TakePlaces.mono _ _ _ _ _ _ _)
      |(with_reducible exact laws_eqIntS.mono _ _ _)
      |(with_reducible exact laws_eqSource.mono _ _ _ _ _ _ _ _ _)
      |(with_reducible exact laws_heldIntS.mono _ _ _)
      |(with_reducible exact laws_heldSource.mono _ _ _ _ _ _)
      |(with_reducible exact laws_markIntS.mono _ _ _)
      |(with_reducible exact laws_markSource.mono _ _ _ _ _ _)
      |(with_reducible exact laws_toSource.mono _ _ _ _ _)
      |(with_reducible exact spec_TakePlaces.mono _ _ _ _ _ _ _)
      |(with_reducible exact LeO.refl _)
      |(with_reducible exact LeO.none _)
      |(with_reducible refine LeO.ite ?_ ?_)
      |(with_reducible refine LeO.bind ?_ (fun _=> ?_))
      |exact ih0 _ _ _ _ _ _ _ _ _ _ _ _ _ _ _ _ _ _ _ _ _ _ _
      |exact ih1 _ _ _ _ _ _ _ _ _ _ _ _ _ _ _ _ _ _
      |exact ih2 _ _ _ _ _ _ _
      |exact impl_TakePlaces.mono _ _ _ _ _ _ _
      |exact laws_eqIntS.mono _ _ _
      |exact laws_eqSource.mono _ _ _ _ _ _ _ _ _
      |exact laws_heldIntS.mono _ _ _
      |exact laws_heldSource.mono _ _ _ _ _ _
      |exact laws_markIntS.mono _ _ _
      |exact laws_markSource.mono _ _ _ _ _ _
      |exact laws_toSource.mono _ _ _ _ _
      |exact spec_TakePlaces.mono _ _ _ _ _ _ _
      |exact LeO.none _
      |refine LeO.ite ?_ ?_
      |refine LeO.bind ?_ (fun _=> ?_)
set_option maxHeartbeats 8000000 in
set_option maxRecDepth 100000 in
theorem laws_FnExactTakePlaces.calls (k:Nat) (A0_0:Option Addr) (c0_0:Nat) (l0_0:List (S125)) (a0_1:Int) (a0_2:ByteArray) (a0_3:Int) (a1:Int) (a2:Int) (r:Bool) (w:World) (hr0_0:Kd.C k125 w A0_0 l0_0.length l0_0) (hc0_0:l0_0.length ≤ c0_0) (h:laws_FnExactTakePlaces.f k l0_0 a0_1 a0_2 a0_3 a1 a2=some r):
    Calls Try.prog 20 #[.agg #[.slice A0_0 l0_0.length c0_0,.int .i64 a0_1,.string a0_2,.int .i64 a0_3],.int .i64 a1,.int .i64 a2] w fun e w'=> e= .returned (.bool r) ∧ Below w.heap.size w w':=by
  have hu61:=Try.underlying61
  have hu36:=Try.underlying36
  have HR0_0:=Aside0.mk hr0_0
  have HC0_0:=Aside0.mk hc0_0
  clear hr0_0 hc0_0
  have HB:=Aside0.mk (Below.refl w.heap.size w)
  have H:((laws_szSource.f l0_0 a0_1 a0_2 a0_3 1048576).bind fun t979=> (if t979 < 0 then (some true) else ((laws_toSource.f k l0_0 a0_1 a0_2 a0_3).bind fun bt980=> ((spec_TakePlaces.f k bt980.1 bt980.2.1 bt980.2.2.1 bt980.2.2.2 a1 a2).bind fun bt986=> ((laws_toSource.f k l0_0 a0_1 a0_2 a0_3).bind fun bt997=> ((impl_TakePlaces.f k bt997.1 bt997.2.1 bt997.2.2.1 bt997.2.2.2 a1 a2).bind fun bt1004=> ((laws_eqSource.f k bt1004.1 bt1004.2.1 bt1004.2.2.1 bt1004.2.2.2.1 bt986.1 bt986.2.1 bt986.2.2.1 bt986.2.2.2.1).bind fun t1015=> (if t1015=true then ((laws_eqIntS.f k bt1004.2.2.2.2.1 bt986.2.2.2.2.1).bind fun t1016=> (if t1016=true then (laws_FnExactTakePlaces.j0 k a1 a2 bt986.2.2.2.2.1 bt986.2.2.2.2.2 bt1004.2.2.2.2.1 bt1004.2.2.2.2.2 (bt1004.2.2.2.2.2 !=bt986.2.2.2.2.2) l0_0 a0_1 a0_2 a0_3 bt986.1 bt986.2.1 bt986.2.2.1 bt986.2.2.2.1 bt997.1 bt997.2.1 bt997.2.2.1 bt997.2.2.2 bt1004.1 bt1004.2.1 bt1004.2.2.1 bt1004.2.2.2.1) else (none))) else (none)))))))))=some r:=h
  clear h
  replace H:=Option.bind_eq_some_iff.mp H
  obtain ⟨t979,A40,H⟩:=H
  replace H:(if t979 < 0 then (some true) else ((laws_toSource.f k l0_0 a0_1 a0_2 a0_3).bind fun bt980=> ((spec_TakePlaces.f k bt980.1 bt980.2.1 bt980.2.2.1 bt980.2.2.2 a1 a2).bind fun bt986=> ((laws_toSource.f k l0_0 a0_1 a0_2 a0_3).bind fun bt997=> ((impl_TakePlaces.f k bt997.1 bt997.2.1 bt997.2.2.1 bt997.2.2.2 a1 a2).bind fun bt1004=> ((laws_eqSource.f k bt1004.1 bt1004.2.1 bt1004.2.2.1 bt1004.2.2.2.1 bt986.1 bt986.2.1 bt986.2.2.1 bt986.2.2.2.1).bind fun t1015=> (if t1015=true then ((laws_eqIntS.f k bt1004.2.2.2.2.1 bt986.2.2.2.2.1).bind fun t1016=> (if t1016=true then (laws_FnExactTakePlaces.j0 k a1 a2 bt986.2.2.2.2.1 bt986.2.2.2.2.2 bt1004.2.2.2.2.1 bt1004.2.2.2.2.2 (bt1004.2.2.2.2.2 !=bt986.2.2.2.2.2) l0_0 a0_1 a0_2 a0_3 bt986.1 bt986.2.1 bt986.2.2.1 bt986.2.2.2.1 bt997.1 bt997.2.1 bt997.2.2.1 bt997.2.2.2 bt1004.1 bt1004.2.1 bt1004.2.2.1 bt1004.2.2.2.1) else (none))) else (none))))))))=some r:=H
  have A4:=Aside0.mk A40
  clear A40
  by_cases c5:t979 < 0
  · rw [if_pos c5] at H
    have c5b0:decide (t979 < 0)=true:=decide_eq_true c5
    clear c5
    obtain rfl:=Option.some.inj H
    go_enter Try.func20,Try.ntmps20
    go_wp2_with (first|((with_reducible refine gate_dst (N:=3) rfl ?_);refine box_event ?hg (N:=3) ?hd (cs:= #[.slice A0_0 l0_0.length c0_0,.int .i64 a0_1,.string a0_2,.int .i64 a0_3]) (t:=61) ?hr ?_;(case hd=> rfl);(case hg=> rfl);(case hr=> first|(go_simp;done)|(go_simp;rfl));intro gb978 hg w6 hbox hb;have n0_:=Aside0.mk (below_step (by repeat (first|(with_reducible first|exact HB.out|apply bwA|apply bwN|apply bwD)|exact HB.out)) hb);have n1_:=Aside0.mk (hbox);have n2_:=Aside0.mk ((by rw [hg];exact (below_size (by repeat (first|(with_reducible first|exact HB.out|apply bwA|apply bwN|apply bwD)|exact HB.out))):w.heap.size ≤ gb978));have n3_:=Aside0.mk ((by rw [hg];exact (below_size (by repeat (first|(with_reducible first|exact HB.out|apply bwA|apply bwN|apply bwD)|exact HB.out))):w.heap.size ≤ gb978));clear HB;have HB:=n0_;have BK978:=n1_;have GW978:=n2_;have GE978:=n3_;clear n0_ n1_ n2_ n3_;clear hb hbox hg;have hcz7_0:w6.cell? ⟨gb978,0,none⟩=some (.slice A0_0 l0_0.length c0_0):=(blk_cell BK978.out 0).trans rfl;have hcz7_1:w6.cell? ⟨gb978,1,none⟩=some (.int .i64 a0_1):=(blk_cell BK978.out 1).trans rfl;have hcz7_2:w6.cell? ⟨gb978,2,none⟩=some (.string a0_2):=(blk_cell BK978.out 2).trans rfl;have hcz7_3:w6.cell? ⟨gb978,3,none⟩=some (.int .i64 a0_3):=(blk_cell BK978.out 3).trans rfl;have hfz7_0:=blk_frozen BK978.out 0;have hfz7_1:=blk_frozen BK978.out 1;have hfz7_2:=blk_frozen BK978.out 2;have hfz7_3:=blk_frozen BK978.out 3)|((with_reducible refine gate_callee (f:=53) rfl ?_);refine goesL_ (some 23) rfl rfl Try.func53 (by kernel_rfl) rfl #[.agg #[.slice A0_0 l0_0.length c0_0,.int .i64 a0_1,.string a0_2,.int .i64 a0_3],.int .i64 1048576] rfl (by (try simp only [List.map_toArray,List.map_cons,List.map_nil]);first|done|rfl|(simp only [List.length_drop,List.length_take];rfl)) ?_;(with_reducible refine (laws_szSource.calls _ _ l0_0 a0_1 a0_2 a0_3 1048576 t979 _ ?side1 ?side2 A4.out).mono ?_);(case side1=> repeat (first|exact (Kd.C_below HR0_0.out HB.out)|(with_reducible refine Kd.C_alloc ?_ _)|(with_reducible refine Kd.C_drewN ?_ _)|(with_reducible refine Kd.C_drew ?_)));(case side2=> exact HC0_0.out);rintro e w8 ⟨rfl,hb⟩;refine ⟨_,rfl,?_⟩;have n0_:=Aside0.mk (blk_below (g:=gb978) (o:= .cells #[.slice A0_0 l0_0.length c0_0,.int .i64 a0_1,.string a0_2,.int .i64 a0_3] 61 (0,0)) (by (with_reducible repeat (first|apply bN|apply bd|apply bA));exact BK978.out) hb);have n1_:=Aside0.mk (below_step (by repeat (first|(with_reducible first|exact HB.out|apply bwA|apply bwN|apply bwD|refine bwS ?_ GE978.out)|exact HB.out)) hb);clear BK978;clear HB;have BK978:=n0_;have HB:=n1_;clear n0_ n1_;(try clear hb);(try clear hb2);(try clear hk);(try clear hi)))
    go_ret
    exact ⟨by first|rfl|(simp [errW_none,errW_some] <;> rfl)|(simp [*,errW_none,errW_some] <;> rfl),by repeat (first|(with_reducible first|exact HB.out|apply bwA|apply bwN|apply bwD|refine bwS ?_ GE978.out)|exact HB.out)⟩
  · rw [if_neg c5] at H
    have c5b0:decide (t979 < 0)=false:=decide_eq_false c5
    clear c5
    replace H:=Option.bind_eq_some_iff.mp H
    obtain ⟨⟨t980,t983,t984,t985⟩,A90,H⟩:=H
    replace H:((spec_TakePlaces.f k t980 t983 t984 t985 a1 a2).bind fun bt986=> ((laws_toSource.f k l0_0 a0_1 a0_2 a0_3).bind fun bt997=> ((impl_TakePlaces.f k bt997.1 bt997.2.1 bt997.2.2.1 bt997.2.2.2 a1 a2).bind fun bt1004=> ((laws_eqSource.f k bt1004.1 bt1004.2.1 bt1004.2.2.1 bt1004.2.2.2.1 bt986.1 bt986.2.1 bt986.2.2.1 bt986.2.2.2.1).bind fun t1015=> (if t1015=true then ((laws_eqIntS.f k bt1004.2.2.2.2.1 bt986.2.2.2.2.1).bind fun t1016=> (if t1016=true then (laws_FnExactTakePlaces.j0 k a1 a2 bt986.2.2.2.2.1 bt986.2.2.2.2.2 bt1004.2.2.2.2.1 bt1004.2.2.2.2.2 (bt1004.2.2.2.2.2 !=bt986.2.2.2.2.2) l0_0 a0_1 a0_2 a0_3 bt986.1 bt986.2.1 bt986.2.2.1 bt986.2.2.2.1 bt997.1 bt997.2.1 bt997.2.2.1 bt997.2.2.2 bt1004.1 bt1004.2.1 bt1004.2.2.1 bt1004.2.2.2.1) else (none))) else (none))))))=some r:=H
    have A9:=Aside0.mk A90
    clear A90
    replace H:=Option.bind_eq_some_iff.mp H
    obtain ⟨⟨t986,t989,t990,t991,t992,t995⟩,A100,H⟩:=H
    replace H:((laws_toSource.f k l0_0 a0_1 a0_2 a0_3).bind fun bt997=> ((impl_TakePlaces.f k bt997.1 bt997.2.1 bt997.2.2.1 bt997.2.2.2 a1 a2).bind fun bt1004=> ((laws_eqSource.f k bt1004.1 bt1004.2.1 bt1004.2.2.1 bt1004.2.2.2.1 t986 t989 t990 t991).bind fun t1015=> (if t1015=true then ((laws_eqIntS.f k bt1004.2.2.2.2.1 t992).bind fun t1016=> (if t1016=true then (laws_FnExactTakePlaces.j0 k a1 a2 t992 t995 bt1004.2.2.2.2.1 bt1004.2.2.2.2.2 (bt1004.2.2.2.2.2 !=t995) l0_0 a0_1 a0_2 a0_3 t986 t989 t990 t991 bt997.1 bt997.2.1 bt997.2.2.1 bt997.2.2.2 bt1004.1 bt1004.2.1 bt1004.2.2.1 bt1004.2.2.2.1) else (none))) else (none)))))=some r:=H
    have A10:=Aside0.mk A100
    clear A100
    replace H:=Option.bind_eq_some_iff.mp H
    obtain ⟨⟨t997,t1000,t1001,t1002⟩,A110,H⟩:=H
    replace H:((impl_TakePlaces.f k t997 t1000 t1001 t1002 a1 a2).bind fun bt1004=> ((laws_eqSource.f k bt1004.1 bt1004.2.1 bt1004.2.2.1 bt1004.2.2.2.1 t986 t989 t990 t991).bind fun t1015=> (if t1015=true then ((laws_eqIntS.f k bt1004.2.2.2.2.1 t992).bind fun t1016=> (if t1016=true then (laws_FnExactTakePlaces.j0 k a1 a2 t992 t995 bt1004.2.2.2.2.1 bt1004.2.2.2.2.2 (bt1004.2.2.2.2.2 !=t995) l0_0 a0_1 a0_2 a0_3 t986 t989 t990 t991 t997 t1000 t1001 t1002 bt1004.1 bt1004.2.1 bt1004.2.2.1 bt1004.2.2.2.1) else (none))) else (none))))=some r:=H
    have A11:=Aside0.mk A110
    clear A110
    replace H:=Option.bind_eq_some_iff.mp H
    obtain ⟨⟨t1004,t1007,t1008,t1009,t1010,t1013⟩,A120,H⟩:=H
    replace H:((laws_eqSource.f k t1004 t1007 t1008 t1009 t986 t989 t990 t991).bind fun t1015=> (if t1015=true then ((laws_eqIntS.f k t1010 t992).bind fun t1016=> (if t1016=true then (laws_FnExactTakePlaces.j0 k a1 a2 t992 t995 t1010 t1013 (t1013 !=t995) l0_0 a0_1 a0_2 a0_3 t986 t989 t990 t991 t997 t1000 t1001 t1002 t1004 t1007 t1008 t1009) else (none))) else (none)))=some r:=H
    have A12:=Aside0.mk A120
    clear A120
    have HC13:=Aside0.mk H
    clear H
    go_enter Try.func20,Try.ntmps20
    go_upto_region 8 with (first|((with_reducible refine gate_dst (N:=3) rfl ?_);refine box_event ?hg (N:=3) ?hd (cs:= #[.slice A0_0 l0_0.length c0_0,.int .i64 a0_1,.string a0_2,.int .i64 a0_3]) (t:=61) ?hr ?_;(case hd=> rfl);(case hg=> rfl);(case hr=> first|(go_simp;done)|(go_simp;rfl));intro gb978 hg w14 hbox hb;have n0_:=Aside0.mk (below_step (by repeat (first|(with_reducible first|exact HB.out|apply bwA|apply bwN|apply bwD)|exact HB.out)) hb);have n1_:=Aside0.mk (hbox);have n2_:=Aside0.mk ((by rw [hg];exact (below_size (by repeat (first|(with_reducible first|exact HB.out|apply bwA|apply bwN|apply bwD)|exact HB.out))):w.heap.size ≤ gb978));have n3_:=Aside0.mk ((by rw [hg];exact (below_size (by repeat (first|(with_reducible first|exact HB.out|apply bwA|apply bwN|apply bwD)|exact HB.out))):w.heap.size ≤ gb978));clear HB;have HB:=n0_;have BK978:=n1_;have GW978:=n2_;have GE978:=n3_;clear n0_ n1_ n2_ n3_;clear hb hbox hg;have hcz15_0:w14.cell? ⟨gb978,0,none⟩=some (.slice A0_0 l0_0.length c0_0):=(blk_cell BK978.out 0).trans rfl;have hcz15_1:w14.cell? ⟨gb978,1,none⟩=some (.int .i64 a0_1):=(blk_cell BK978.out 1).trans rfl;have hcz15_2:w14.cell? ⟨gb978,2,none⟩=some (.string a0_2):=(blk_cell BK978.out 2).trans rfl;have hcz15_3:w14.cell? ⟨gb978,3,none⟩=some (.int .i64 a0_3):=(blk_cell BK978.out 3).trans rfl;have hfz15_0:=blk_frozen BK978.out 0;have hfz15_1:=blk_frozen BK978.out 1;have hfz15_2:=blk_frozen BK978.out 2;have hfz15_3:=blk_frozen BK978.out 3)|((with_reducible refine gate_callee (f:=53) rfl ?_);refine goesL_ (some 23) rfl rfl Try.func53 (by kernel_rfl) rfl #[.agg #[.slice A0_0 l0_0.length c0_0,.int .i64 a0_1,.string a0_2,.int .i64 a0_3],.int .i64 1048576] rfl (by (try simp only [List.map_toArray,List.map_cons,List.map_nil]);first|done|rfl|(simp only [List.length_drop,List.length_take];rfl)) ?_;(with_reducible refine (laws_szSource.calls _ _ l0_0 a0_1 a0_2 a0_3 1048576 t979 _ ?side1 ?side2 A4.out).mono ?_);(case side1=> repeat (first|exact (Kd.C_below HR0_0.out HB.out)|(with_reducible refine Kd.C_alloc ?_ _)|(with_reducible refine Kd.C_drewN ?_ _)|(with_reducible refine Kd.C_drew ?_)));(case side2=> exact HC0_0.out);rintro e w16 ⟨rfl,hb⟩;refine ⟨_,rfl,?_⟩;have n0_:=Aside0.mk (blk_below (g:=gb978) (o:= .cells #[.slice A0_0 l0_0.length c0_0,.int .i64 a0_1,.string a0_2,.int .i64 a0_3] 61 (0,0)) (by (with_reducible repeat (first|apply bN|apply bd|apply bA));exact BK978.out) hb);have n1_:=Aside0.mk (below_step (by repeat (first|(with_reducible first|exact HB.out|apply bwA|apply bwN|apply bwD|refine bwS ?_ GE978.out)|exact HB.out)) hb);clear BK978;clear HB;have BK978:=n0_;have HB:=n1_;clear n0_ n1_;(try clear hb);(try clear hb2);(try clear hk);(try clear hi);have hcz17_0:w16.cell? ⟨gb978,0,none⟩=some (.slice A0_0 l0_0.length c0_0):=(blk_cell BK978.out 0).trans rfl;have hcz17_1:w16.cell? ⟨gb978,1,none⟩=some (.int .i64 a0_1):=(blk_cell BK978.out 1).trans rfl;have hcz17_2:w16.cell? ⟨gb978,2,none⟩=some (.string a0_2):=(blk_cell BK978.out 2).trans rfl;have hcz17_3:w16.cell? ⟨gb978,3,none⟩=some (.int .i64 a0_3):=(blk_cell BK978.out 3).trans rfl;have hfz17_0:=blk_frozen BK978.out 0;have hfz17_1:=blk_frozen BK978.out 1;have hfz17_2:=blk_frozen BK978.out 2;have hfz17_3:=blk_frozen BK978.out 3)|((with_reducible refine gate_callee (f:=55) rfl ?_);refine goesL_ (some 28) rfl rfl Try.func55 (by kernel_rfl) rfl #[.agg #[.slice A0_0 l0_0.length c0_0,.int .i64 a0_1,.string a0_2,.int .i64 a0_3]] rfl (by (try simp only [List.map_toArray,List.map_cons,List.map_nil]);first|done|rfl|(simp only [List.length_drop,List.length_take];rfl)) ?_;(with_reducible refine (laws_toSource.calls k _ _ l0_0 a0_1 a0_2 a0_3 t980 t983 t984 t985 _ ?side1 ?side2 A9.out).mono ?_);(case side1=> repeat (first|exact (Kd.C_below HR0_0.out HB.out)|(with_reducible refine Kd.C_alloc ?_ _)|(with_reducible refine Kd.C_drewN ?_ _)|(with_reducible refine Kd.C_drew ?_)));(case side2=> exact HC0_0.out);rintro e w18 ⟨v981,rfl,ho0,hb⟩;refine ⟨_,rfl,?_⟩;have n0_:=Aside0.mk (Kd.R_lower ho0 (below_size (by repeat (first|(with_reducible first|exact HB.out|apply bwA|apply bwN|apply bwD|refine bwS ?_ GE978.out)|exact HB.out))));have n1_:=Aside0.mk (blk_below (g:=gb978) (o:= .cells #[.slice A0_0 l0_0.length c0_0,.int .i64 a0_1,.string a0_2,.int .i64 a0_3] 61 (0,0)) (by (with_reducible repeat (first|apply bN|apply bd|apply bA));exact BK978.out) hb);have n2_:=Aside0.mk (below_step (by repeat (first|(with_reducible first|exact HB.out|apply bwA|apply bwN|apply bwD|refine bwS ?_ GE978.out)|exact HB.out)) hb);clear BK978;clear HB;have HO982:=n0_;have BK978:=n1_;have HB:=n2_;clear n0_ n1_ n2_;(try clear hb);(try clear hb2);(try clear hk);(try clear hi);(try clear ho0);obtain ⟨Ao19,co19,eo19⟩:=Kd.R_slice HO982.out;subst eo19)|((with_reducible refine gate_callee (f:=75) rfl ?_);refine goesL_ (some 31) rfl rfl Try.func75 (by kernel_rfl) rfl #[.agg #[.slice Ao19 t980.length co19,.int .i64 t983,.string t984,.int .i64 t985],.int .i64 a1,.int .i64 a2] rfl (by (try simp only [List.map_toArray,List.map_cons,List.map_nil]);first|done|rfl|(simp only [List.length_drop,List.length_take];rfl)) ?_;(with_reducible refine (spec_TakePlaces.calls k (fun k_=> some k_=(.slice Ao19 t980.length co19:Value).ownBlock) (.slice Ao19 t980.length co19) t980 t983 t984 t985 a1 a2 t986 t989 t990 t991 t992 t995 w _ ?side1 ?side2 A10.out).mono ?_);(case side1=> repeat (first|(with_reducible first|exact HB.out|apply bwA|apply bwN|apply bwD|refine bwS ?_ GE978.out)|exact HB.out));(case side2=> exact Kd.R_tight rfl HO982.out);rintro e w20 ⟨v987,v993,rfl,ho0,ho1,hb,hkp⟩;refine ⟨_,rfl,?_⟩;have n0_:=Aside0.mk (blk_kept (by (with_reducible repeat (first|apply bN|apply bd|apply bA));exact BK978.out) hkp (fun hs_=> (fun e_=> (Kd.R_ne HO982.out BK978.out (by decide)) e_) hs_));have n1_:=Aside0.mk (Kd.R_mono (ok':=fun k_=> True) ho0 (fun k_ hk_=> trivial));have n2_:=Aside0.mk (Kd.R_mono (ok':=fun k_=> True) ho1 (fun k_ hk_=> trivial));have n3_:=Aside0.mk (hb);clear BK978;clear HB;clear HO982;have BK978:=n0_;have HO988:=n1_;have HO994:=n2_;have HB:=n3_;clear n0_ n1_ n2_ n3_;(try clear hb);(try clear hkp);(try clear ho0);(try clear ho1))|((with_reducible refine gate_dst (N:=8) rfl ?_);refine box_event ?hg (N:=8) ?hd (cs:= #[.slice none 0 0,.int .i64 0,.string (⟨#[]⟩:ByteArray),.int .i64 0]) (t:=36) ?hr ?_;(case hd=> rfl);(case hg=> rfl);(case hr=> first|(go_simp;done)|(go_simp;rfl));intro gb996 hg w21 hbox hb;have n0_:=Aside0.mk (Kd.R_below (by (with_reducible repeat (first|apply Kd.R_alloc|apply Kd.R_drewN|apply Kd.R_drew));exact HO988.out) hb);have n1_:=Aside0.mk (Kd.R_below (by (with_reducible repeat (first|apply Kd.R_alloc|apply Kd.R_drewN|apply Kd.R_drew));exact HO994.out) hb);have n2_:=Aside0.mk (blk_below (g:=gb978) (o:= .cells #[.slice A0_0 l0_0.length c0_0,.int .i64 a0_1,.string a0_2,.int .i64 a0_3] 61 (0,0)) (by (with_reducible repeat (first|apply bN|apply bd|apply bA));exact BK978.out) hb);have n3_:=Aside0.mk (below_step (by repeat (first|(with_reducible first|exact HB.out|apply bwA|apply bwN|apply bwD|refine bwS ?_ GE978.out)|exact HB.out)) hb);have n4_:=Aside0.mk (hbox);have n5_:=Aside0.mk ((by rw [hg];exact (below_size (by repeat (first|(with_reducible first|exact HB.out|apply bwA|apply bwN|apply bwD|refine bwS ?_ GE978.out)|exact HB.out))):w.heap.size ≤ gb996));have n6_:=Aside0.mk ((by rw [hg];exact (below_size (by repeat (first|(with_reducible first|exact HB.out|apply bwA|apply bwN|apply bwD|refine bwS ?_ GE978.out)|exact HB.out))):w.heap.size ≤ gb996));have n7_:=Aside0.mk ((by rw [hg];exact Nat.ne_of_lt (blk_lt (g:=gb978) (o:= .cells #[.slice A0_0 l0_0.length c0_0,.int .i64 a0_1,.string a0_2,.int .i64 a0_3] 61 (0,0)) (by (with_reducible repeat (first|apply bN|apply bd|apply bA));exact BK978.out)):gb978 ≠ gb996));have n8_:=Aside0.mk ((by rw [hg];exact Nat.ne_of_gt (blk_lt (g:=gb978) (o:= .cells #[.slice A0_0 l0_0.length c0_0,.int .i64 a0_1,.string a0_2,.int .i64 a0_3] 61 (0,0)) (by (with_reducible repeat (first|apply bN|apply bd|apply bA));exact BK978.out)):gb996 ≠ gb978));clear HO988;clear HO994;clear BK978;clear HB;have HO988:=n0_;have HO994:=n1_;have BK978:=n2_;have HB:=n3_;have BK996:=n4_;have GW996:=n5_;have GE996:=n6_;have NB978_996:=n7_;have NB996_978:=n8_;clear n0_ n1_ n2_ n3_ n4_ n5_ n6_ n7_ n8_;clear hb hbox hg;obtain ⟨Ao22,co22,eo22⟩:=Kd.R_slice HO988.out;subst eo22;have hnb23:=NB996_978.out;have hnc23:=NB978_996.out;have hcz24_0:w21.cell? ⟨gb996,0,none⟩=some (.slice none 0 0):=(blk_cell BK996.out 0).trans rfl;have hcz24_1:w21.cell? ⟨gb996,1,none⟩=some (.int .i64 0):=(blk_cell BK996.out 1).trans rfl;have hcz24_2:w21.cell? ⟨gb996,2,none⟩=some (.string (⟨#[]⟩:ByteArray)):=(blk_cell BK996.out 2).trans rfl;have hcz24_3:w21.cell? ⟨gb996,3,none⟩=some (.int .i64 0):=(blk_cell BK996.out 3).trans rfl;have hfz24_0:=blk_frozen BK996.out 0;have hfz24_1:=blk_frozen BK996.out 1;have hfz24_2:=blk_frozen BK996.out 2;have hfz24_3:=blk_frozen BK996.out 3;have hcz25_0:w21.cell? ⟨gb978,0,none⟩=some (.slice A0_0 l0_0.length c0_0):=(blk_cell BK978.out 0).trans rfl;have hcz25_1:w21.cell? ⟨gb978,1,none⟩=some (.int .i64 a0_1):=(blk_cell BK978.out 1).trans rfl;have hcz25_2:w21.cell? ⟨gb978,2,none⟩=some (.string a0_2):=(blk_cell BK978.out 2).trans rfl;have hcz25_3:w21.cell? ⟨gb978,3,none⟩=some (.int .i64 a0_3):=(blk_cell BK978.out 3).trans rfl;have hfz25_0:=blk_frozen BK978.out 0;have hfz25_1:=blk_frozen BK978.out 1;have hfz25_2:=blk_frozen BK978.out 2;have hfz25_3:=blk_frozen BK978.out 3)|((with_reducible refine gate_callee (f:=55) rfl ?_);refine goesL_ (some 36) rfl rfl Try.func55 (by kernel_rfl) rfl #[.agg #[.slice A0_0 l0_0.length c0_0,.int .i64 a0_1,.string a0_2,.int .i64 a0_3]] rfl (by (try simp only [List.map_toArray,List.map_cons,List.map_nil]);first|done|rfl|(simp only [List.length_drop,List.length_take];rfl)) ?_;(with_reducible refine (laws_toSource.calls k _ _ l0_0 a0_1 a0_2 a0_3 t997 t1000 t1001 t1002 _ ?side1 ?side2 A11.out).mono ?_);(case side1=> exact Kd.C_below HR0_0.out (by repeat (first|(with_reducible first|exact HB.out|apply bwA|apply bwN|apply bwD|refine bwS ?_ GE978.out|refine bwS ?_ GE996.out)|exact HB.out)));(case side2=> exact HC0_0.out);rintro e w26 ⟨v998,rfl,ho0,hb⟩;refine ⟨_,rfl,?_⟩;have n0_:=Aside0.mk (Kd.R_elder' (by (with_reducible repeat (first|apply Kd.R_alloc|apply Kd.R_drewN|apply Kd.R_drew));exact (Kd.R_mono (Kd.R_far (p:=⟨gb996,3,none⟩) (Kd.R_far (p:=⟨gb996,2,none⟩) (Kd.R_far (p:=⟨gb996,1,none⟩) (Kd.R_far (p:=⟨gb996,0,none⟩) (Kd.R_types HO988.out BK996.out (by decide)) (fun _ hk=> hk.2) (.slice Ao22 t986.length co22)) (fun _ hk=> hk.2) (.int .i64 t989)) (fun _ hk=> hk.2) (.string t990)) (fun _ hk=> hk.2) (.int .i64 t991)) (fun _ h_=> h_.1))) (Kd.R_base ho0) hb);have n1_:=Aside0.mk (Kd.R_below (by (with_reducible repeat (first|apply Kd.R_alloc|apply Kd.R_drewN|apply Kd.R_drew));exact (Kd.R_mono (Kd.R_far (p:=⟨gb996,3,none⟩) (Kd.R_far (p:=⟨gb996,2,none⟩) (Kd.R_far (p:=⟨gb996,1,none⟩) (Kd.R_far (p:=⟨gb996,0,none⟩) (Kd.R_types HO994.out BK996.out (by decide)) (fun _ hk=> hk.2) (.slice Ao22 t986.length co22)) (fun _ hk=> hk.2) (.int .i64 t989)) (fun _ hk=> hk.2) (.string t990)) (fun _ hk=> hk.2) (.int .i64 t991)) (fun _ h_=> h_.1))) hb);have n2_:=Aside0.mk (Kd.R_lower (Kd.R_new' ho0 (Kd.R_lt (by (with_reducible repeat (first|apply Kd.R_alloc|apply Kd.R_drewN|apply Kd.R_drew));exact (Kd.R_mono (Kd.R_far (p:=⟨gb996,3,none⟩) (Kd.R_far (p:=⟨gb996,2,none⟩) (Kd.R_far (p:=⟨gb996,1,none⟩) (Kd.R_far (p:=⟨gb996,0,none⟩) (Kd.R_types HO988.out BK996.out (by decide)) (fun _ hk=> hk.2) (.slice Ao22 t986.length co22)) (fun _ hk=> hk.2) (.int .i64 t989)) (fun _ hk=> hk.2) (.string t990)) (fun _ hk=> hk.2) (.int .i64 t991)) (fun _ h_=> h_.1))))) (below_size (by repeat (first|(with_reducible first|exact HB.out|apply bwA|apply bwN|apply bwD|refine bwS ?_ GE978.out|refine bwS ?_ GE996.out)|exact HB.out))));have n3_:=Aside0.mk (blk_below (g:=gb978) (o:= .cells #[.slice A0_0 l0_0.length c0_0,.int .i64 a0_1,.string a0_2,.int .i64 a0_3] 61 (0,0)) (by (with_reducible repeat (first|apply bN|apply bd|apply bA));refine blk_far ?_ NB978_996.out _;(with_reducible repeat (first|apply bN|apply bd|apply bA));refine blk_far ?_ NB978_996.out _;(with_reducible repeat (first|apply bN|apply bd|apply bA));refine blk_far ?_ NB978_996.out _;(with_reducible repeat (first|apply bN|apply bd|apply bA));refine blk_far ?_ NB978_996.out _;(with_reducible repeat (first|apply bN|apply bd|apply bA));exact BK978.out) hb);have n4_:=Aside0.mk (blk_below (g:=gb996) (o:= .cells #[.slice Ao22 t986.length co22,.int .i64 t989,.string t990,.int .i64 t991] 36 (0,0)) (by (with_reducible repeat (first|apply bN|apply bd|apply bA));refine blk_put (cs:= #[.slice Ao22 t986.length co22,.int .i64 t989,.string t990,.int .i64 0]) ?_ 3 _ rfl;(with_reducible repeat (first|apply bN|apply bd|apply bA));refine blk_put (cs:= #[.slice Ao22 t986.length co22,.int .i64 t989,.string (⟨#[]⟩:ByteArray),.int .i64 0]) ?_ 2 _ rfl;(with_reducible repeat (first|apply bN|apply bd|apply bA));refine blk_put (cs:= #[.slice Ao22 t986.length co22,.int .i64 0,.string (⟨#[]⟩:ByteArray),.int .i64 0]) ?_ 1 _ rfl;(with_reducible repeat (first|apply bN|apply bd|apply bA));refine blk_put (cs:= #[.slice none 0 0,.int .i64 0,.string (⟨#[]⟩:ByteArray),.int .i64 0]) ?_ 0 _ rfl;(with_reducible repeat (first|apply bN|apply bd|apply bA));exact BK996.out) hb);have n5_:=Aside0.mk (below_step (by repeat (first|(with_reducible first|exact HB.out|apply bwA|apply bwN|apply bwD|refine bwS ?_ GE978.out|refine bwS ?_ GE996.out)|exact HB.out)) hb);clear HO988;clear HO994;clear BK978;clear BK996;clear HB;have HO988:=n0_;have HO994:=n1_;have HO999:=n2_;have BK978:=n3_;have BK996:=n4_;have HB:=n5_;clear n0_ n1_ n2_ n3_ n4_ n5_;(try clear hb);(try clear hb2);(try clear hk);(try clear hi);(try clear ho0))|((with_reducible refine gate_dst (N:=11) rfl ?_);refine box_event ?hg (N:=11) ?hd (cs:= #[.slice none 0 0,.int .i64 0,.string (⟨#[]⟩:ByteArray),.int .i64 0]) (t:=36) ?hr ?_;(case hd=> rfl);(case hg=> rfl);(case hr=> first|(go_simp;done)|(go_simp;rfl));intro gb1003 hg w27 hbox hb;have n0_:=Aside0.mk (Kd.R_below (by (with_reducible repeat (first|apply Kd.R_alloc|apply Kd.R_drewN|apply Kd.R_drew));exact HO988.out) hb);have n1_:=Aside0.mk (Kd.R_below (by (with_reducible repeat (first|apply Kd.R_alloc|apply Kd.R_drewN|apply Kd.R_drew));exact HO994.out) hb);have n2_:=Aside0.mk (Kd.R_below (by (with_reducible repeat (first|apply Kd.R_alloc|apply Kd.R_drewN|apply Kd.R_drew));exact HO999.out) hb);have n3_:=Aside0.mk (blk_below (g:=gb978) (o:= .cells #[.slice A0_0 l0_0.length c0_0,.int .i64 a0_1,.string a0_2,.int .i64 a0_3] 61 (0,0)) (by (with_reducible repeat (first|apply bN|apply bd|apply bA));exact BK978.out) hb);have n4_:=Aside0.mk (blk_below (g:=gb996) (o:= .cells #[.slice Ao22 t986.length co22,.int .i64 t989,.string t990,.int .i64 t991] 36 (0,0)) (by (with_reducible repeat (first|apply bN|apply bd|apply bA));exact BK996.out) hb);have n5_:=Aside0.mk (below_step (by repeat (first|(with_reducible first|exact HB.out|apply bwA|apply bwN|apply bwD|refine bwS ?_ GE978.out|refine bwS ?_ GE996.out)|exact HB.out)) hb);have n6_:=Aside0.mk (hbox);have n7_:=Aside0.mk ((by rw [hg];exact (below_size (by repeat (first|(with_reducible first|exact HB.out|apply bwA|apply bwN|apply bwD|refine bwS ?_ GE978.out|refine bwS ?_ GE996.out)|exact HB.out))):w.heap.size ≤ gb1003));have n8_:=Aside0.mk ((by rw [hg];exact (below_size (by repeat (first|(with_reducible first|exact HB.out|apply bwA|apply bwN|apply bwD|refine bwS ?_ GE978.out|refine bwS ?_ GE996.out)|exact HB.out))):w.heap.size ≤ gb1003));have n9_:=Aside0.mk ((by rw [hg];exact Nat.ne_of_lt (blk_lt (g:=gb978) (o:= .cells #[.slice A0_0 l0_0.length c0_0,.int .i64 a0_1,.string a0_2,.int .i64 a0_3] 61 (0,0)) (by (with_reducible repeat (first|apply bN|apply bd|apply bA));exact BK978.out)):gb978 ≠ gb1003));have n10_:=Aside0.mk ((by rw [hg];exact Nat.ne_of_gt (blk_lt (g:=gb978) (o:= .cells #[.slice A0_0 l0_0.length c0_0,.int .i64 a0_1,.string a0_2,.int .i64 a0_3] 61 (0,0)) (by (with_reducible repeat (first|apply bN|apply bd|apply bA));exact BK978.out)):gb1003 ≠ gb978));have n11_:=Aside0.mk ((by rw [hg];exact Nat.ne_of_lt (blk_lt (g:=gb996) (o:= .cells #[.slice Ao22 t986.length co22,.int .i64 t989,.string t990,.int .i64 t991] 36 (0,0)) (by (with_reducible repeat (first|apply bN|apply bd|apply bA));exact BK996.out)):gb996 ≠ gb1003));have n12_:=Aside0.mk ((by rw [hg];exact Nat.ne_of_gt (blk_lt (g:=gb996) (o:= .cells #[.slice Ao22 t986.length co22,.int .i64 t989,.string t990,.int .i64 t991] 36 (0,0)) (by (with_reducible repeat (first|apply bN|apply bd|apply bA));exact BK996.out)):gb1003 ≠ gb996));clear HO988;clear HO994;clear HO999;clear BK978;clear BK996;clear HB;have HO988:=n0_;have HO994:=n1_;have HO999:=n2_;have BK978:=n3_;have BK996:=n4_;have HB:=n5_;have BK1003:=n6_;have GW1003:=n7_;have GE1003:=n8_;have NB978_1003:=n9_;have NB1003_978:=n10_;have NB996_1003:=n11_;have NB1003_996:=n12_;clear n0_ n1_ n2_ n3_ n4_ n5_ n6_ n7_ n8_ n9_ n10_ n11_ n12_;clear hb hbox hg;obtain ⟨Ao28,co28,eo28⟩:=Kd.R_slice HO999.out;subst eo28;have hnb29:=NB1003_978.out;have hnc29:=NB978_1003.out;have hnb30:=NB1003_996.out;have hnc30:=NB996_1003.out;have hcz31_0:w27.cell? ⟨gb1003,0,none⟩=some (.slice none 0 0):=(blk_cell BK1003.out 0).trans rfl;have hcz31_1:w27.cell? ⟨gb1003,1,none⟩=some (.int .i64 0):=(blk_cell BK1003.out 1).trans rfl;have hcz31_2:w27.cell? ⟨gb1003,2,none⟩=some (.string (⟨#[]⟩:ByteArray)):=(blk_cell BK1003.out 2).trans rfl;have hcz31_3:w27.cell? ⟨gb1003,3,none⟩=some (.int .i64 0):=(blk_cell BK1003.out 3).trans rfl;have hfz31_0:=blk_frozen BK1003.out 0;have hfz31_1:=blk_frozen BK1003.out 1;have hfz31_2:=blk_frozen BK1003.out 2;have hfz31_3:=blk_frozen BK1003.out 3)|((with_reducible refine gate_callee (f:=76) rfl ?_);refine goesL_ (some 41) rfl rfl Try.func76 (by kernel_rfl) rfl #[.agg #[.slice Ao28 t997.length co28,.int .i64 t1000,.string t1001,.int .i64 t1002],.int .i64 a1,.int .i64 a2] rfl (by (try simp only [List.map_toArray,List.map_cons,List.map_nil]);first|done|rfl|(simp only [List.length_drop,List.length_take];rfl)) ?_;(with_reducible refine (impl_TakePlaces.calls k _ _ t997 t1000 t1001 t1002 a1 a2 t1004 t1007 t1008 t1009 t1010 t1013 _ ?side1 ?side2 A12.out).mono ?_);(case side1=> refine (Kd.R_reads' (e:=79) (base:=w.heap.size) (ok:=fun k_=> (True ∧ some k_ ≠ (.slice Ao22 t986.length co22:Value).ownBlock)) (n:=t997.length) (c:=co28) ?_).2.2;exact (by (with_reducible repeat (first|apply Kd.R_alloc|apply Kd.R_drewN|apply Kd.R_drew));exact (Kd.R_mono (Kd.R_far (p:=⟨gb1003,3,none⟩) (Kd.R_far (p:=⟨gb1003,2,none⟩) (Kd.R_far (p:=⟨gb1003,1,none⟩) (Kd.R_far (p:=⟨gb1003,0,none⟩) (Kd.R_types HO999.out BK1003.out (by decide)) (fun _ hk=> hk.2) (.slice Ao28 t997.length co28)) (fun _ hk=> hk.2) (.int .i64 t1000)) (fun _ hk=> hk.2) (.string t1001)) (fun _ hk=> hk.2) (.int .i64 t1002)) (fun _ h_=> h_.1))));(case side2=> exact (Kd.R_reads' HO999.out).2.1);rintro e w32 ⟨v1005,v1011,rfl,ho0,ho1,hb⟩;refine ⟨_,rfl,?_⟩;have n0_:=Aside0.mk (Kd.R_elder' (by (with_reducible repeat (first|apply Kd.R_alloc|apply Kd.R_drewN|apply Kd.R_drew));exact (Kd.R_mono (Kd.R_far (p:=⟨gb1003,3,none⟩) (Kd.R_far (p:=⟨gb1003,2,none⟩) (Kd.R_far (p:=⟨gb1003,1,none⟩) (Kd.R_far (p:=⟨gb1003,0,none⟩) (Kd.R_types HO988.out BK1003.out (by decide)) (fun _ hk=> hk.2) (.slice Ao28 t997.length co28)) (fun _ hk=> hk.2) (.int .i64 t1000)) (fun _ hk=> hk.2) (.string t1001)) (fun _ hk=> hk.2) (.int .i64 t1002)) (fun _ h_=> h_.1))) (Kd.R_base ho0) hb);have n1_:=Aside0.mk (Kd.R_elder' (by (with_reducible repeat (first|apply Kd.R_alloc|apply Kd.R_drewN|apply Kd.R_drew));exact (Kd.R_mono (Kd.R_far (p:=⟨gb1003,3,none⟩) (Kd.R_far (p:=⟨gb1003,2,none⟩) (Kd.R_far (p:=⟨gb1003,1,none⟩) (Kd.R_far (p:=⟨gb1003,0,none⟩) (Kd.R_types HO994.out BK1003.out (by decide)) (fun _ hk=> hk.2) (.slice Ao28 t997.length co28)) (fun _ hk=> hk.2) (.int .i64 t1000)) (fun _ hk=> hk.2) (.string t1001)) (fun _ hk=> hk.2) (.int .i64 t1002)) (fun _ h_=> h_.1))) (Kd.R_base ho1) hb);have n2_:=Aside0.mk (Kd.R_elder' (by (with_reducible repeat (first|apply Kd.R_alloc|apply Kd.R_drewN|apply Kd.R_drew));exact (Kd.R_mono (Kd.R_far (p:=⟨gb1003,3,none⟩) (Kd.R_far (p:=⟨gb1003,2,none⟩) (Kd.R_far (p:=⟨gb1003,1,none⟩) (Kd.R_far (p:=⟨gb1003,0,none⟩) (Kd.R_types HO999.out BK1003.out (by decide)) (fun _ hk=> hk.2) (.slice Ao28 t997.length co28)) (fun _ hk=> hk.2) (.int .i64 t1000)) (fun _ hk=> hk.2) (.string t1001)) (fun _ hk=> hk.2) (.int .i64 t1002)) (fun _ h_=> h_.1))) (Kd.R_base ho0) hb);have n3_:=Aside0.mk (Kd.R_lower (Kd.R_new' (Kd.R_new' ho0 (Kd.R_lt (by (with_reducible repeat (first|apply Kd.R_alloc|apply Kd.R_drewN|apply Kd.R_drew));exact (Kd.R_mono (Kd.R_far (p:=⟨gb1003,3,none⟩) (Kd.R_far (p:=⟨gb1003,2,none⟩) (Kd.R_far (p:=⟨gb1003,1,none⟩) (Kd.R_far (p:=⟨gb1003,0,none⟩) (Kd.R_types HO988.out BK1003.out (by decide)) (fun _ hk=> hk.2) (.slice Ao28 t997.length co28)) (fun _ hk=> hk.2) (.int .i64 t1000)) (fun _ hk=> hk.2) (.string t1001)) (fun _ hk=> hk.2) (.int .i64 t1002)) (fun _ h_=> h_.1))))) (Kd.R_lt (by (with_reducible repeat (first|apply Kd.R_alloc|apply Kd.R_drewN|apply Kd.R_drew));exact (Kd.R_mono (Kd.R_far (p:=⟨gb1003,3,none⟩) (Kd.R_far (p:=⟨gb1003,2,none⟩) (Kd.R_far (p:=⟨gb1003,1,none⟩) (Kd.R_far (p:=⟨gb1003,0,none⟩) (Kd.R_types HO999.out BK1003.out (by decide)) (fun _ hk=> hk.2) (.slice Ao28 t997.length co28)) (fun _ hk=> hk.2) (.int .i64 t1000)) (fun _ hk=> hk.2) (.string t1001)) (fun _ hk=> hk.2) (.int .i64 t1002)) (fun _ h_=> h_.1))))) (below_size (by repeat (first|(with_reducible first|exact HB.out|apply bwA|apply bwN|apply bwD|refine bwS ?_ GE978.out|refine bwS ?_ GE996.out|refine bwS ?_ GE1003.out)|exact HB.out))));have n4_:=Aside0.mk (Kd.R_lower (Kd.R_new' ho1 (Kd.R_lt (by (with_reducible repeat (first|apply Kd.R_alloc|apply Kd.R_drewN|apply Kd.R_drew));exact (Kd.R_mono (Kd.R_far (p:=⟨gb1003,3,none⟩) (Kd.R_far (p:=⟨gb1003,2,none⟩) (Kd.R_far (p:=⟨gb1003,1,none⟩) (Kd.R_far (p:=⟨gb1003,0,none⟩) (Kd.R_types HO994.out BK1003.out (by decide)) (fun _ hk=> hk.2) (.slice Ao28 t997.length co28)) (fun _ hk=> hk.2) (.int .i64 t1000)) (fun _ hk=> hk.2) (.string t1001)) (fun _ hk=> hk.2) (.int .i64 t1002)) (fun _ h_=> h_.1))))) (below_size (by repeat (first|(with_reducible first|exact HB.out|apply bwA|apply bwN|apply bwD|refine bwS ?_ GE978.out|refine bwS ?_ GE996.out|refine bwS ?_ GE1003.out)|exact HB.out))));have n5_:=Aside0.mk (blk_below (g:=gb978) (o:= .cells #[.slice A0_0 l0_0.length c0_0,.int .i64 a0_1,.string a0_2,.int .i64 a0_3] 61 (0,0)) (by (with_reducible repeat (first|apply bN|apply bd|apply bA));refine blk_far ?_ NB978_1003.out _;(with_reducible repeat (first|apply bN|apply bd|apply bA));refine blk_far ?_ NB978_1003.out _;(with_reducible repeat (first|apply bN|apply bd|apply bA));refine blk_far ?_ NB978_1003.out _;(with_reducible repeat (first|apply bN|apply bd|apply bA));refine blk_far ?_ NB978_1003.out _;(with_reducible repeat (first|apply bN|apply bd|apply bA));exact BK978.out) hb);have n6_:=Aside0.mk (blk_below (g:=gb996) (o:= .cells #[.slice Ao22 t986.length co22,.int .i64 t989,.string t990,.int .i64 t991] 36 (0,0)) (by (with_reducible repeat (first|apply bN|apply bd|apply bA));refine blk_far ?_ NB996_1003.out _;(with_reducible repeat (first|apply bN|apply bd|apply bA));refine blk_far ?_ NB996_1003.out _;(with_reducible repeat (first|apply bN|apply bd|apply bA));refine blk_far ?_ NB996_1003.out _;(with_reducible repeat (first|apply bN|apply bd|apply bA));refine blk_far ?_ NB996_1003.out _;(with_reducible repeat (first|apply bN|apply bd|apply bA));exact BK996.out) hb);have n7_:=Aside0.mk (blk_below (g:=gb1003) (o:= .cells #[.slice Ao28 t997.length co28,.int .i64 t1000,.string t1001,.int .i64 t1002] 36 (0,0)) (by (with_reducible repeat (first|apply bN|apply bd|apply bA));refine blk_put (cs:= #[.slice Ao28 t997.length co28,.int .i64 t1000,.string t1001,.int .i64 0]) ?_ 3 _ rfl;(with_reducible repeat (first|apply bN|apply bd|apply bA));refine blk_put (cs:= #[.slice Ao28 t997.length co28,.int .i64 t1000,.string (⟨#[]⟩:ByteArray),.int .i64 0]) ?_ 2 _ rfl;(with_reducible repeat (first|apply bN|apply bd|apply bA));refine blk_put (cs:= #[.slice Ao28 t997.length co28,.int .i64 0,.string (⟨#[]⟩:ByteArray),.int .i64 0]) ?_ 1 _ rfl;(with_reducible repeat (first|apply bN|apply bd|apply bA));refine blk_put (cs:= #[.slice none 0 0,.int .i64 0,.string (⟨#[]⟩:ByteArray),.int .i64 0]) ?_ 0 _ rfl;(with_reducible repeat (first|apply bN|apply bd|apply bA));exact BK1003.out) hb);have n8_:=Aside0.mk (below_step (by repeat (first|(with_reducible first|exact HB.out|apply bwA|apply bwN|apply bwD|refine bwS ?_ GE978.out|refine bwS ?_ GE996.out|refine bwS ?_ GE1003.out)|exact HB.out)) hb);clear HO988;clear HO994;clear HO999;clear BK978;clear BK996;clear BK1003;clear HB;have HO988:=n0_;have HO994:=n1_;have HO999:=n2_;have HO1006:=n3_;have HO1012:=n4_;have BK978:=n5_;have BK996:=n6_;have BK1003:=n7_;have HB:=n8_;clear n0_ n1_ n2_ n3_ n4_ n5_ n6_ n7_ n8_;(try clear hb);(try clear hb2);(try clear hk);(try clear hi);(try clear ho0);(try clear ho1))|((with_reducible refine gate_dst (N:=12) rfl ?_);refine box_event ?hg (N:=12) ?hd (cs:= #[.slice none 0 0,.int .i64 0,.string (⟨#[]⟩:ByteArray),.int .i64 0]) (t:=36) ?hr ?_;(case hd=> rfl);(case hg=> rfl);(case hr=> first|(go_simp;done)|(go_simp;rfl));intro gb1014 hg w33 hbox hb;have n0_:=Aside0.mk (Kd.R_below (by (with_reducible repeat (first|apply Kd.R_alloc|apply Kd.R_drewN|apply Kd.R_drew));exact HO988.out) hb);have n1_:=Aside0.mk (Kd.R_below (by (with_reducible repeat (first|apply Kd.R_alloc|apply Kd.R_drewN|apply Kd.R_drew));exact HO994.out) hb);have n2_:=Aside0.mk (Kd.R_below (by (with_reducible repeat (first|apply Kd.R_alloc|apply Kd.R_drewN|apply Kd.R_drew));exact HO999.out) hb);have n3_:=Aside0.mk (Kd.R_below (by (with_reducible repeat (first|apply Kd.R_alloc|apply Kd.R_drewN|apply Kd.R_drew));exact HO1006.out) hb);have n4_:=Aside0.mk (Kd.R_below (by (with_reducible repeat (first|apply Kd.R_alloc|apply Kd.R_drewN|apply Kd.R_drew));exact HO1012.out) hb);have n5_:=Aside0.mk (blk_below (g:=gb978) (o:= .cells #[.slice A0_0 l0_0.length c0_0,.int .i64 a0_1,.string a0_2,.int .i64 a0_3] 61 (0,0)) (by (with_reducible repeat (first|apply bN|apply bd|apply bA));exact BK978.out) hb);have n6_:=Aside0.mk (blk_below (g:=gb996) (o:= .cells #[.slice Ao22 t986.length co22,.int .i64 t989,.string t990,.int .i64 t991] 36 (0,0)) (by (with_reducible repeat (first|apply bN|apply bd|apply bA));exact BK996.out) hb);have n7_:=Aside0.mk (blk_below (g:=gb1003) (o:= .cells #[.slice Ao28 t997.length co28,.int .i64 t1000,.string t1001,.int .i64 t1002] 36 (0,0)) (by (with_reducible repeat (first|apply bN|apply bd|apply bA));exact BK1003.out) hb);have n8_:=Aside0.mk (below_step (by repeat (first|(with_reducible first|exact HB.out|apply bwA|apply bwN|apply bwD|refine bwS ?_ GE978.out|refine bwS ?_ GE996.out|refine bwS ?_ GE1003.out)|exact HB.out)) hb);have n9_:=Aside0.mk (hbox);have n10_:=Aside0.mk ((by rw [hg];exact (below_size (by repeat (first|(with_reducible first|exact HB.out|apply bwA|apply bwN|apply bwD|refine bwS ?_ GE978.out|refine bwS ?_ GE996.out|refine bwS ?_ GE1003.out)|exact HB.out))):w.heap.size ≤ gb1014));have n11_:=Aside0.mk ((by rw [hg];exact (below_size (by repeat (first|(with_reducible first|exact HB.out|apply bwA|apply bwN|apply bwD|refine bwS ?_ GE978.out|refine bwS ?_ GE996.out|refine bwS ?_ GE1003.out)|exact HB.out))):w.heap.size ≤ gb1014));have n12_:=Aside0.mk ((by rw [hg];exact Nat.ne_of_lt (blk_lt (g:=gb978) (o:= .cells #[.slice A0_0 l0_0.length c0_0,.int .i64 a0_1,.string a0_2,.int .i64 a0_3] 61 (0,0)) (by (with_reducible repeat (first|apply bN|apply bd|apply bA));exact BK978.out)):gb978 ≠ gb1014));have n13_:=Aside0.mk ((by rw [hg];exact Nat.ne_of_gt (blk_lt (g:=gb978) (o:= .cells #[.slice A0_0 l0_0.length c0_0,.int .i64 a0_1,.string a0_2,.int .i64 a0_3] 61 (0,0)) (by (with_reducible repeat (first|apply bN|apply bd|apply bA));exact BK978.out)):gb1014 ≠ gb978));have n14_:=Aside0.mk ((by rw [hg];exact Nat.ne_of_lt (blk_lt (g:=gb996) (o:= .cells #[.slice Ao22 t986.length co22,.int .i64 t989,.string t990,.int .i64 t991] 36 (0,0)) (by (with_reducible repeat (first|apply bN|apply bd|apply bA));exact BK996.out)):gb996 ≠ gb1014));have n15_:=Aside0.mk ((by rw [hg];exact Nat.ne_of_gt (blk_lt (g:=gb996) (o:= .cells #[.slice Ao22 t986.length co22,.int .i64 t989,.string t990,.int .i64 t991] 36 (0,0)) (by (with_reducible repeat (first|apply bN|apply bd|apply bA));exact BK996.out)):gb1014 ≠ gb996));have n16_:=Aside0.mk ((by rw [hg];exact Nat.ne_of_lt (blk_lt (g:=gb1003) (o:= .cells #[.slice Ao28 t997.length co28,.int .i64 t1000,.string t1001,.int .i64 t1002] 36 (0,0)) (by (with_reducible repeat (first|apply bN|apply bd|apply bA));exact BK1003.out)):gb1003 ≠ gb1014));have n17_:=Aside0.mk ((by rw [hg];exact Nat.ne_of_gt (blk_lt (g:=gb1003) (o:= .cells #[.slice Ao28 t997.length co28,.int .i64 t1000,.string t1001,.int .i64 t1002] 36 (0,0)) (by (with_reducible repeat (first|apply bN|apply bd|apply bA));exact BK1003.out)):gb1014 ≠ gb1003));clear HO988;clear HO994;clear HO999;clear HO1006;clear HO1012;clear BK978;clear BK996;clear BK1003;clear HB;have HO988:=n0_;have HO994:=n1_;have HO999:=n2_;have HO1006:=n3_;have HO1012:=n4_;have BK978:=n5_;have BK996:=n6_;have BK1003:=n7_;have HB:=n8_;have BK1014:=n9_;have GW1014:=n10_;have GE1014:=n11_;have NB978_1014:=n12_;have NB1014_978:=n13_;have NB996_1014:=n14_;have NB1014_996:=n15_;have NB1003_1014:=n16_;have NB1014_1003:=n17_;clear n0_ n1_ n2_ n3_ n4_ n5_ n6_ n7_ n8_ n9_ n10_ n11_ n12_ n13_ n14_ n15_ n16_ n17_;clear hb hbox hg;obtain ⟨Ao34,co34,eo34⟩:=Kd.R_slice HO1006.out;subst eo34;have hnb35:=NB1014_978.out;have hnc35:=NB978_1014.out;have hnb36:=NB1014_996.out;have hnc36:=NB996_1014.out;have hnb37:=NB1014_1003.out;have hnc37:=NB1003_1014.out;have hcz38_0:w33.cell? ⟨gb1014,0,none⟩=some (.slice none 0 0):=(blk_cell BK1014.out 0).trans rfl;have hcz38_1:w33.cell? ⟨gb1014,1,none⟩=some (.int .i64 0):=(blk_cell BK1014.out 1).trans rfl;have hcz38_2:w33.cell? ⟨gb1014,2,none⟩=some (.string (⟨#[]⟩:ByteArray)):=(blk_cell BK1014.out 2).trans rfl;have hcz38_3:w33.cell? ⟨gb1014,3,none⟩=some (.int .i64 0):=(blk_cell BK1014.out 3).trans rfl;have hfz38_0:=blk_frozen BK1014.out 0;have hfz38_1:=blk_frozen BK1014.out 1;have hfz38_2:=blk_frozen BK1014.out 2;have hfz38_3:=blk_frozen BK1014.out 3))
    (try simp only [Act.put,List.setIfInBounds_toArray,List.set_cons_zero,List.set_cons_succ])
    go_cut [59] (fun v59 wc=> ∃ (kq:Nat) (x59_12:Bool),v59= .bool x59_12 ∧ Aside0 (laws_FnExactTakePlaces.j0 kq a1 a2 t992 t995 t1010 t1013 x59_12 l0_0 a0_1 a0_2 a0_3 t986 t989 t990 t991 t997 t1000 t1001 t1002 t1004 t1007 t1008 t1009=some r) ∧ Aside0 (kq ≤ k) ∧ Aside0 (Kd.R (Kd.int .i64) 3 wc w.heap.size (fun k_=> some k_ ≠ (v1011:Value).ownBlock) v993 t992) ∧ Aside0 (Kd.R (Kd.int .i64) 3 wc w.heap.size (fun k_=> some k_ ≠ (v993:Value).ownBlock) v1011 t1010) ∧ Aside0 (Kd.R k79 79 wc w.heap.size (fun k_=> some k_ ≠ ((.slice Ao28 t997.length co28):Value).ownBlock ∧ some k_ ≠ ((.slice Ao34 t1004.length co34):Value).ownBlock) (.slice Ao22 t986.length co22) t986) ∧ Aside0 (Kd.R k79 79 wc w.heap.size (fun k_=> some k_ ≠ ((.slice Ao22 t986.length co22):Value).ownBlock ∧ some k_ ≠ ((.slice Ao34 t1004.length co34):Value).ownBlock) (.slice Ao28 t997.length co28) t997) ∧ Aside0 (Kd.R k79 79 wc w.heap.size (fun k_=> some k_ ≠ ((.slice Ao22 t986.length co22):Value).ownBlock ∧ some k_ ≠ ((.slice Ao28 t997.length co28):Value).ownBlock) (.slice Ao34 t1004.length co34) t1004) ∧ Aside0 (wc.heap[gb978]?=some (.cells #[(.slice A0_0 l0_0.length c0_0),.int .i64 a0_1,.string a0_2,.int .i64 a0_3] 61 (0,0))) ∧ Aside0 (wc.heap[gb996]?=some (.cells #[(.slice Ao22 t986.length co22),.int .i64 t989,.string t990,.int .i64 t991] 36 (0,0))) ∧ Aside0 (wc.heap[gb1003]?=some (.cells #[(.slice Ao28 t997.length co28),.int .i64 t1000,.string t1001,.int .i64 t1002] 36 (0,0))) ∧ Aside0 (wc.heap[gb1014]?=some (.cells #[(.slice Ao34 t1004.length co34),.int .i64 t1007,.string t1008,.int .i64 t1009] 36 (0,0))) ∧ Aside0 (Below w.heap.size w wc))
    case first=>
      have H:=HC13.out
      clear HC13
      replace H:=Option.bind_eq_some_iff.mp H
      obtain ⟨t1015,A390,H⟩:=H
      replace H:(if t1015=true then ((laws_eqIntS.f k t1010 t992).bind fun t1016=> (if t1016=true then (laws_FnExactTakePlaces.j0 k a1 a2 t992 t995 t1010 t1013 (t1013 !=t995) l0_0 a0_1 a0_2 a0_3 t986 t989 t990 t991 t997 t1000 t1001 t1002 t1004 t1007 t1008 t1009) else (none))) else (none))=some r:=H
      have A39:=Aside0.mk A390
      clear A390
      by_cases c40:t1015=true
      · subst c40
        have H1:((laws_eqIntS.f k t1010 t992).bind fun t1016=> (if t1016=true then (laws_FnExactTakePlaces.j0 k a1 a2 t992 t995 t1010 t1013 (t1013 !=t995) l0_0 a0_1 a0_2 a0_3 t986 t989 t990 t991 t997 t1000 t1001 t1002 t1004 t1007 t1008 t1009) else (none)))=some r:=by rw [if_pos rfl] at H;exact H
        clear H
        have H:=H1
        clear H1
        replace H:=Option.bind_eq_some_iff.mp H
        obtain ⟨t1016,A410,H⟩:=H
        replace H:(if t1016=true then (laws_FnExactTakePlaces.j0 k a1 a2 t992 t995 t1010 t1013 (t1013 !=t995) l0_0 a0_1 a0_2 a0_3 t986 t989 t990 t991 t997 t1000 t1001 t1002 t1004 t1007 t1008 t1009) else (none))=some r:=H
        have A41:=Aside0.mk A410
        clear A410
        by_cases c42:t1016=true
        · subst c42
          have H1:(laws_FnExactTakePlaces.j0 k a1 a2 t992 t995 t1010 t1013 (t1013 !=t995) l0_0 a0_1 a0_2 a0_3 t986 t989 t990 t991 t997 t1000 t1001 t1002 t1004 t1007 t1008 t1009)=some r:=by rw [if_pos rfl] at H;exact H
          clear H
          have H:=H1
          clear H1
          have H':=Aside0.mk H
          clear H
          have hnb43:=NB1014_978.out
          have hnc43:=NB978_1014.out
          have hnb44:=NB1014_996.out
          have hnc44:=NB996_1014.out
          have hnb45:=NB1014_1003.out
          have hnc45:=NB1003_1014.out
          have hcz46_0:w33.cell? ⟨gb1014,0,none⟩=some (.slice none 0 0):=(blk_cell BK1014.out 0).trans rfl
          have hcz46_1:w33.cell? ⟨gb1014,1,none⟩=some (.int .i64 0):=(blk_cell BK1014.out 1).trans rfl
          have hcz46_2:w33.cell? ⟨gb1014,2,none⟩=some (.string (⟨#[]⟩:ByteArray)):=(blk_cell BK1014.out 2).trans rfl
          have hcz46_3:w33.cell? ⟨gb1014,3,none⟩=some (.int .i64 0):=(blk_cell BK1014.out 3).trans rfl
          have hfz46_0:=blk_frozen BK1014.out 0
          have hfz46_1:=blk_frozen BK1014.out 1
          have hfz46_2:=blk_frozen BK1014.out 2
          have hfz46_3:=blk_frozen BK1014.out 3
          have hnb47:=NB996_978.out
          have hnc47:=NB978_996.out
          have hnb48:=NB996_1003.out
          have hnc48:=NB1003_996.out
          have hcz49_0:w33.cell? ⟨gb996,0,none⟩=some (.slice Ao22 t986.length co22):=(blk_cell BK996.out 0).trans rfl
          have hcz49_1:w33.cell? ⟨gb996,1,none⟩=some (.int .i64 t989):=(blk_cell BK996.out 1).trans rfl
          have hcz49_2:w33.cell? ⟨gb996,2,none⟩=some (.string t990):=(blk_cell BK996.out 2).trans rfl
          have hcz49_3:w33.cell? ⟨gb996,3,none⟩=some (.int .i64 t991):=(blk_cell BK996.out 3).trans rfl
          have hfz49_0:=blk_frozen BK996.out 0
          have hfz49_1:=blk_frozen BK996.out 1
          have hfz49_2:=blk_frozen BK996.out 2
          have hfz49_3:=blk_frozen BK996.out 3
          go_wp2_with (first|((with_reducible refine gate_callee (f:=36) rfl ?_);refine goesL_ (some 47) rfl rfl Try.func36 (by kernel_rfl) rfl #[.agg #[.slice Ao34 t1004.length co34,.int .i64 t1007,.string t1008,.int .i64 t1009],.agg #[.slice Ao22 t986.length co22,.int .i64 t989,.string t990,.int .i64 t991]] rfl (by (try simp only [List.map_toArray,List.map_cons,List.map_nil]);first|done|rfl|(simp only [List.length_drop,List.length_take];rfl)) ?_;(with_reducible refine (laws_eqSource.calls k _ _ t1004 t1007 t1008 t1009 _ _ t986 t989 t990 t991 true _ ?side1 ?side2 ?side3 ?side4 A39.out).mono ?_);(case side1=> refine (Kd.R_reads' (e:=79) (base:=w.heap.size) (ok:=fun k_=> ((True ∧ some k_ ≠ (.slice Ao22 t986.length co22:Value).ownBlock) ∧ some k_ ≠ (.slice Ao28 t997.length co28:Value).ownBlock)) (n:=t1004.length) (c:=co34) ?_).2.2;exact (by (with_reducible repeat (first|apply Kd.R_alloc|apply Kd.R_drewN|apply Kd.R_drew));exact (Kd.R_mono (Kd.R_far (p:=⟨gb1014,3,none⟩) (Kd.R_far (p:=⟨gb1014,2,none⟩) (Kd.R_far (p:=⟨gb1014,1,none⟩) (Kd.R_far (p:=⟨gb1014,0,none⟩) (Kd.R_types HO1006.out BK1014.out (by decide)) (fun _ hk=> hk.2) (.slice Ao34 t1004.length co34)) (fun _ hk=> hk.2) (.int .i64 t1007)) (fun _ hk=> hk.2) (.string t1008)) (fun _ hk=> hk.2) (.int .i64 t1009)) (fun _ h_=> h_.1))));(case side2=> exact (Kd.R_reads' HO1006.out).2.1);(case side3=> refine (Kd.R_reads' (e:=79) (base:=w.heap.size) (ok:=fun k_=> ((True ∧ some k_ ≠ (.slice Ao28 t997.length co28:Value).ownBlock) ∧ some k_ ≠ (.slice Ao34 t1004.length co34:Value).ownBlock)) (n:=t986.length) (c:=co22) ?_).2.2;exact (by (with_reducible repeat (first|apply Kd.R_alloc|apply Kd.R_drewN|apply Kd.R_drew));exact (Kd.R_mono (Kd.R_far (p:=⟨gb1014,3,none⟩) (Kd.R_far (p:=⟨gb1014,2,none⟩) (Kd.R_far (p:=⟨gb1014,1,none⟩) (Kd.R_far (p:=⟨gb1014,0,none⟩) (Kd.R_types HO988.out BK1014.out (by decide)) (fun _ hk=> hk.2) (.slice Ao34 t1004.length co34)) (fun _ hk=> hk.2) (.int .i64 t1007)) (fun _ hk=> hk.2) (.string t1008)) (fun _ hk=> hk.2) (.int .i64 t1009)) (fun _ h_=> h_.1))));(case side4=> exact (Kd.R_reads' HO988.out).2.1);rintro e w50 ⟨rfl,hb⟩;refine ⟨_,rfl,?_⟩;have n0_:=Aside0.mk (Kd.R_below (by (with_reducible repeat (first|apply Kd.R_alloc|apply Kd.R_drewN|apply Kd.R_drew));exact (Kd.R_mono (Kd.R_far (p:=⟨gb1014,3,none⟩) (Kd.R_far (p:=⟨gb1014,2,none⟩) (Kd.R_far (p:=⟨gb1014,1,none⟩) (Kd.R_far (p:=⟨gb1014,0,none⟩) (Kd.R_types HO988.out BK1014.out (by decide)) (fun _ hk=> hk.2) (.slice Ao34 t1004.length co34)) (fun _ hk=> hk.2) (.int .i64 t1007)) (fun _ hk=> hk.2) (.string t1008)) (fun _ hk=> hk.2) (.int .i64 t1009)) (fun _ h_=> h_.1))) hb);have n1_:=Aside0.mk (Kd.R_below (by (with_reducible repeat (first|apply Kd.R_alloc|apply Kd.R_drewN|apply Kd.R_drew));exact (Kd.R_mono (Kd.R_far (p:=⟨gb1014,3,none⟩) (Kd.R_far (p:=⟨gb1014,2,none⟩) (Kd.R_far (p:=⟨gb1014,1,none⟩) (Kd.R_far (p:=⟨gb1014,0,none⟩) (Kd.R_types HO994.out BK1014.out (by decide)) (fun _ hk=> hk.2) (.slice Ao34 t1004.length co34)) (fun _ hk=> hk.2) (.int .i64 t1007)) (fun _ hk=> hk.2) (.string t1008)) (fun _ hk=> hk.2) (.int .i64 t1009)) (fun _ h_=> h_.1))) hb);have n2_:=Aside0.mk (Kd.R_below (by (with_reducible repeat (first|apply Kd.R_alloc|apply Kd.R_drewN|apply Kd.R_drew));exact (Kd.R_mono (Kd.R_far (p:=⟨gb1014,3,none⟩) (Kd.R_far (p:=⟨gb1014,2,none⟩) (Kd.R_far (p:=⟨gb1014,1,none⟩) (Kd.R_far (p:=⟨gb1014,0,none⟩) (Kd.R_types HO999.out BK1014.out (by decide)) (fun _ hk=> hk.2) (.slice Ao34 t1004.length co34)) (fun _ hk=> hk.2) (.int .i64 t1007)) (fun _ hk=> hk.2) (.string t1008)) (fun _ hk=> hk.2) (.int .i64 t1009)) (fun _ h_=> h_.1))) hb);have n3_:=Aside0.mk (Kd.R_below (by (with_reducible repeat (first|apply Kd.R_alloc|apply Kd.R_drewN|apply Kd.R_drew));exact (Kd.R_mono (Kd.R_far (p:=⟨gb1014,3,none⟩) (Kd.R_far (p:=⟨gb1014,2,none⟩) (Kd.R_far (p:=⟨gb1014,1,none⟩) (Kd.R_far (p:=⟨gb1014,0,none⟩) (Kd.R_types HO1006.out BK1014.out (by decide)) (fun _ hk=> hk.2) (.slice Ao34 t1004.length co34)) (fun _ hk=> hk.2) (.int .i64 t1007)) (fun _ hk=> hk.2) (.string t1008)) (fun _ hk=> hk.2) (.int .i64 t1009)) (fun _ h_=> h_.1))) hb);have n4_:=Aside0.mk (Kd.R_below (by (with_reducible repeat (first|apply Kd.R_alloc|apply Kd.R_drewN|apply Kd.R_drew));exact (Kd.R_mono (Kd.R_far (p:=⟨gb1014,3,none⟩) (Kd.R_far (p:=⟨gb1014,2,none⟩) (Kd.R_far (p:=⟨gb1014,1,none⟩) (Kd.R_far (p:=⟨gb1014,0,none⟩) (Kd.R_types HO1012.out BK1014.out (by decide)) (fun _ hk=> hk.2) (.slice Ao34 t1004.length co34)) (fun _ hk=> hk.2) (.int .i64 t1007)) (fun _ hk=> hk.2) (.string t1008)) (fun _ hk=> hk.2) (.int .i64 t1009)) (fun _ h_=> h_.1))) hb);have n5_:=Aside0.mk (blk_below (g:=gb978) (o:= .cells #[.slice A0_0 l0_0.length c0_0,.int .i64 a0_1,.string a0_2,.int .i64 a0_3] 61 (0,0)) (by (with_reducible repeat (first|apply bN|apply bd|apply bA));refine blk_far ?_ NB978_1014.out _;(with_reducible repeat (first|apply bN|apply bd|apply bA));refine blk_far ?_ NB978_1014.out _;(with_reducible repeat (first|apply bN|apply bd|apply bA));refine blk_far ?_ NB978_1014.out _;(with_reducible repeat (first|apply bN|apply bd|apply bA));refine blk_far ?_ NB978_1014.out _;(with_reducible repeat (first|apply bN|apply bd|apply bA));exact BK978.out) hb);have n6_:=Aside0.mk (blk_below (g:=gb996) (o:= .cells #[.slice Ao22 t986.length co22,.int .i64 t989,.string t990,.int .i64 t991] 36 (0,0)) (by (with_reducible repeat (first|apply bN|apply bd|apply bA));refine blk_far ?_ NB996_1014.out _;(with_reducible repeat (first|apply bN|apply bd|apply bA));refine blk_far ?_ NB996_1014.out _;(with_reducible repeat (first|apply bN|apply bd|apply bA));refine blk_far ?_ NB996_1014.out _;(with_reducible repeat (first|apply bN|apply bd|apply bA));refine blk_far ?_ NB996_1014.out _;(with_reducible repeat (first|apply bN|apply bd|apply bA));exact BK996.out) hb);have n7_:=Aside0.mk (blk_below (g:=gb1003) (o:= .cells #[.slice Ao28 t997.length co28,.int .i64 t1000,.string t1001,.int .i64 t1002] 36 (0,0)) (by (with_reducible repeat (first|apply bN|apply bd|apply bA));refine blk_far ?_ NB1003_1014.out _;(with_reducible repeat (first|apply bN|apply bd|apply bA));refine blk_far ?_ NB1003_1014.out _;(with_reducible repeat (first|apply bN|apply bd|apply bA));refine blk_far ?_ NB1003_1014.out _;(with_reducible repeat (first|apply bN|apply bd|apply bA));refine blk_far ?_ NB1003_1014.out _;(with_reducible repeat (first|apply bN|apply bd|apply bA));exact BK1003.out) hb);have n8_:=Aside0.mk (blk_below (g:=gb1014) (o:= .cells #[.slice Ao34 t1004.length co34,.int .i64 t1007,.string t1008,.int .i64 t1009] 36 (0,0)) (by (with_reducible repeat (first|apply bN|apply bd|apply bA));refine blk_put (cs:= #[.slice Ao34 t1004.length co34,.int .i64 t1007,.string t1008,.int .i64 0]) ?_ 3 _ rfl;(with_reducible repeat (first|apply bN|apply bd|apply bA));refine blk_put (cs:= #[.slice Ao34 t1004.length co34,.int .i64 t1007,.string (⟨#[]⟩:ByteArray),.int .i64 0]) ?_ 2 _ rfl;(with_reducible repeat (first|apply bN|apply bd|apply bA));refine blk_put (cs:= #[.slice Ao34 t1004.length co34,.int .i64 0,.string (⟨#[]⟩:ByteArray),.int .i64 0]) ?_ 1 _ rfl;(with_reducible repeat (first|apply bN|apply bd|apply bA));refine blk_put (cs:= #[.slice none 0 0,.int .i64 0,.string (⟨#[]⟩:ByteArray),.int .i64 0]) ?_ 0 _ rfl;(with_reducible repeat (first|apply bN|apply bd|apply bA));exact BK1014.out) hb);have n9_:=Aside0.mk (below_step (by repeat (first|(with_reducible first|exact HB.out|apply bwA|apply bwN|apply bwD|refine bwS ?_ GE978.out|refine bwS ?_ GE996.out|refine bwS ?_ GE1003.out|refine bwS ?_ GE1014.out)|exact HB.out)) hb);clear HO988;clear HO994;clear HO999;clear HO1006;clear HO1012;clear BK978;clear BK996;clear BK1003;clear BK1014;clear HB;have HO988:=n0_;have HO994:=n1_;have HO999:=n2_;have HO1006:=n3_;have HO1012:=n4_;have BK978:=n5_;have BK996:=n6_;have BK1003:=n7_;have BK1014:=n8_;have HB:=n9_;clear n0_ n1_ n2_ n3_ n4_ n5_ n6_ n7_ n8_ n9_;(try clear hb);(try clear hb2);(try clear hk);(try clear hi);obtain ⟨Ao51,co51,eo51⟩:=Kd.R_slice HO1012.out;subst eo51;obtain ⟨Ao52,co52,eo52⟩:=Kd.R_slice HO994.out;subst eo52)|(go_at_call 77;(with_reducible refine (laws_eqIntS.calls k _ _ t1010 _ _ t992 true _ ?side1 ?side2 ?side3 ?side4 A41.out).mono ?_);(case side1=> repeat (first|exact (Kd.R_reads' HO1012.out).2.2|(with_reducible refine Kd.C_alloc ?_ _)|(with_reducible refine Kd.C_drewN ?_ _)|(with_reducible refine Kd.C_drew ?_)));(case side2=> exact (Kd.R_reads' HO1012.out).2.1);(case side3=> repeat (first|exact (Kd.R_reads' HO994.out).2.2|(with_reducible refine Kd.C_alloc ?_ _)|(with_reducible refine Kd.C_drewN ?_ _)|(with_reducible refine Kd.C_drew ?_)));(case side4=> exact (Kd.R_reads' HO994.out).2.1);rintro e w' ⟨rfl,⟨nd,rfl⟩⟩))
          go_meet
          case rel=> exact ⟨_,((t1013 !=t995)),(by first|rfl|(simp;done)|(simp [*];done)),H',⟨by first|omega|exact Nat.le_refl _⟩,⟨by (with_reducible repeat (first|apply Kd.R_alloc|apply Kd.R_drewN|apply Kd.R_drew));exact Kd.R_mono HO994.out (fun _ hk=> hk.2)⟩,⟨by (with_reducible repeat (first|apply Kd.R_alloc|apply Kd.R_drewN|apply Kd.R_drew));exact Kd.R_mono HO1012.out (fun _ hk=> hk.2)⟩,⟨by (with_reducible repeat (first|apply Kd.R_alloc|apply Kd.R_drewN|apply Kd.R_drew));exact Kd.R_mono HO988.out (fun _ hk=> ⟨hk.1.2,hk.2⟩)⟩,⟨by (with_reducible repeat (first|apply Kd.R_alloc|apply Kd.R_drewN|apply Kd.R_drew));exact Kd.R_mono HO999.out (fun _ hk=> ⟨hk.1.2,hk.2⟩)⟩,⟨by (with_reducible repeat (first|apply Kd.R_alloc|apply Kd.R_drewN|apply Kd.R_drew));exact Kd.R_mono HO1006.out (fun _ hk=> ⟨hk.1.2,hk.2⟩)⟩,⟨by (with_reducible repeat (first|apply bN|apply bd|apply bA));exact BK978.out⟩,⟨by (with_reducible repeat (first|apply bN|apply bd|apply bA));exact BK996.out⟩,⟨by (with_reducible repeat (first|apply bN|apply bd|apply bA));exact BK1003.out⟩,⟨by (with_reducible repeat (first|apply bN|apply bd|apply bA));exact BK1014.out⟩,⟨by repeat (first|(with_reducible first|exact HB.out|apply bwA|apply bwN|apply bwD|refine bwS ?_ GE978.out|refine bwS ?_ GE996.out|refine bwS ?_ GE1003.out|refine bwS ?_ GE1014.out)|exact HB.out)⟩⟩
        · replace c42:=Bool.eq_false_iff.mpr c42
          subst c42
          have H1:(none)=some r:=by rw [if_neg (show ¬ (false=true) by decide)] at H;exact H
          clear H
          have H:=H1
          clear H1
          exact absurd H (by simp)
      · replace c40:=Bool.eq_false_iff.mpr c40
        subst c40
        have H1:(none)=some r:=by rw [if_neg (show ¬ (false=true) by decide)] at H;exact H
        clear H
        have H:=H1
        clear H1
        exact absurd H (by simp)
    case rest=>
      clear HC13
      try clear c2
      try clear p2
      try clear c3
      try clear c4
      try clear c5
      try clear c5b0
      try clear c7
      try clear c20
      try clear c23
      try clear c29
      try clear c30
      try clear c35
      try clear c36
      try clear c37
      try clear c40
      try clear c42
      try clear c43
      try clear c44
      try clear c45
      try clear c47
      try clear c48
      try clear hcz15_0
      try clear hcz15_1
      try clear hcz15_2
      try clear hcz15_3
      try clear hcz17_0
      try clear hcz17_1
      try clear hcz17_2
      try clear hcz17_3
      try clear hcz24_0
      try clear hcz24_1
      try clear hcz24_2
      try clear hcz24_3
      try clear hcz25_0
      try clear hcz25_1
      try clear hcz25_2
      try clear hcz25_3
      try clear hcz31_0
      try clear hcz31_1
      try clear hcz31_2
      try clear hcz31_3
      try clear hcz38_0
      try clear hcz38_1
      try clear hcz38_2
      try clear hcz38_3
      try clear hcz46_0
      try clear hcz46_1
      try clear hcz46_2
      try clear hcz46_3
      try clear hcz49_0
      try clear hcz49_1
      try clear hcz49_2
      try clear hcz49_3
      try clear hcz7_0
      try clear hcz7_1
      try clear hcz7_2
      try clear hcz7_3
      try clear hfz15_0
      try clear hfz15_1
      try clear hfz15_2
      try clear hfz15_3
      try clear hfz17_0
      try clear hfz17_1
      try clear hfz17_2
      try clear hfz17_3
      try clear hfz24_0
      try clear hfz24_1
      try clear hfz24_2
      try clear hfz24_3
      try clear hfz25_0
      try clear hfz25_1
      try clear hfz25_2
      try clear hfz25_3
      try clear hfz31_0
      try clear hfz31_1
      try clear hfz31_2
      try clear hfz31_3
      try clear hfz38_0
      try clear hfz38_1
      try clear hfz38_2
      try clear hfz38_3
      try clear hfz46_0
      try clear hfz46_1
      try clear hfz46_2
      try clear hfz46_3
      try clear hfz49_0
      try clear hfz49_1
      try clear hfz49_2
      try clear hfz49_3
      try clear hfz7_0
      try clear hfz7_1
      try clear hfz7_2
      try clear hfz7_3
      obtain ⟨kq,x59_12,rfl,HA,HJ12,HO_9,HO_13,HO_997000,HO_1004000,HO_1015000,BK978,BK996,BK1003,BK1014,HB⟩:=hcut
      cases kq with
      |zero=> exact absurd HA.out (by simp [laws_FnExactTakePlaces.j0])
      |succ kj12=>
        have H:=HA.out
        clear HA
        simp only [laws_FnExactTakePlaces.j0] at H
        by_cases c53:x59_12=true
        · subst c53
          have H1:(none)=some r:=by rw [if_pos rfl] at H;exact H
          clear H
          have H:=H1
          clear H1
          exact absurd H (by simp)
        · replace c53:=Bool.eq_false_iff.mpr c53
          subst c53
          have H1:((laws_toSource.f kj12 l0_0 a0_1 a0_2 a0_3).bind fun bt1017=> ((laws_eqSource.f kj12 t997 t1000 t1001 t1002 bt1017.1 bt1017.2.1 bt1017.2.2.1 bt1017.2.2.2).bind fun t1023=> (if t1023=true then ((laws_markSource.f kj12 t997 t1000 t1001 t1002 1).bind fun bt1024=> (if bt1024.1 < 0 then (none) else ((laws_eqSource.f kj12 t1004 t1007 t1008 t1009 t986 t989 t990 t991).bind fun t1026=> (if t1026=true then ((laws_eqIntS.f kj12 t1010 t992).bind fun t1027=> (if t1027=true then (laws_FnExactTakePlaces.j1 kj12 a1 a2 t992 t995 t1010 (t1013 !=t995) l0_0 a0_1 a0_2 a0_3 t986 t989 t990 t991 t1004 t1007 t1008 t1009) else (none))) else (none))))) else (none))))=some r:=by rw [if_neg (show ¬ (false=true) by decide)] at H;exact H
          clear H
          have H:=H1
          clear H1
          replace H:=Option.bind_eq_some_iff.mp H
          obtain ⟨⟨t1017,t1020,t1021,t1022⟩,A540,H⟩:=H
          replace H:((laws_eqSource.f kj12 t997 t1000 t1001 t1002 t1017 t1020 t1021 t1022).bind fun t1023=> (if t1023=true then ((laws_markSource.f kj12 t997 t1000 t1001 t1002 1).bind fun bt1024=> (if bt1024.1 < 0 then (none) else ((laws_eqSource.f kj12 t1004 t1007 t1008 t1009 t986 t989 t990 t991).bind fun t1026=> (if t1026=true then ((laws_eqIntS.f kj12 t1010 t992).bind fun t1027=> (if t1027=true then (laws_FnExactTakePlaces.j1 kj12 a1 a2 t992 t995 t1010 (t1013 !=t995) l0_0 a0_1 a0_2 a0_3 t986 t989 t990 t991 t1004 t1007 t1008 t1009) else (none))) else (none))))) else (none)))=some r:=H
          have A54:=Aside0.mk A540
          clear A540
          replace H:=Option.bind_eq_some_iff.mp H
          obtain ⟨t1023,A550,H⟩:=H
          replace H:(if t1023=true then ((laws_markSource.f kj12 t997 t1000 t1001 t1002 1).bind fun bt1024=> (if bt1024.1 < 0 then (none) else ((laws_eqSource.f kj12 t1004 t1007 t1008 t1009 t986 t989 t990 t991).bind fun t1026=> (if t1026=true then ((laws_eqIntS.f kj12 t1010 t992).bind fun t1027=> (if t1027=true then (laws_FnExactTakePlaces.j1 kj12 a1 a2 t992 t995 t1010 (t1013 !=t995) l0_0 a0_1 a0_2 a0_3 t986 t989 t990 t991 t1004 t1007 t1008 t1009) else (none))) else (none))))) else (none))=some r:=H
          have A55:=Aside0.mk A550
          clear A550
          by_cases c56:t1023=true
          · subst c56
            have H1:((laws_markSource.f kj12 t997 t1000 t1001 t1002 1).bind fun bt1024=> (if bt1024.1 < 0 then (none) else ((laws_eqSource.f kj12 t1004 t1007 t1008 t1009 t986 t989 t990 t991).bind fun t1026=> (if t1026=true then ((laws_eqIntS.f kj12 t1010 t992).bind fun t1027=> (if t1027=true then (laws_FnExactTakePlaces.j1 kj12 a1 a2 t992 t995 t1010 (t1013 !=t995) l0_0 a0_1 a0_2 a0_3 t986 t989 t990 t991 t1004 t1007 t1008 t1009) else (none))) else (none)))))=some r:=by rw [if_pos rfl] at H;exact H
            clear H
            have H:=H1
            clear H1
            replace H:=Option.bind_eq_some_iff.mp H
            obtain ⟨⟨t1024,t1025⟩,A570,H⟩:=H
            replace H:(if t1024 < 0 then (none) else ((laws_eqSource.f kj12 t1004 t1007 t1008 t1009 t986 t989 t990 t991).bind fun t1026=> (if t1026=true then ((laws_eqIntS.f kj12 t1010 t992).bind fun t1027=> (if t1027=true then (laws_FnExactTakePlaces.j1 kj12 a1 a2 t992 t995 t1010 (t1013 !=t995) l0_0 a0_1 a0_2 a0_3 t986 t989 t990 t991 t1004 t1007 t1008 t1009) else (none))) else (none))))=some r:=H
            have A57:=Aside0.mk A570
            clear A570
            have HC58:=Aside0.mk H
            clear H
            try go_wp2
            have n0_:=Aside0.mk (Kd.R_drew HO_9.out)
            have n1_:=Aside0.mk (Kd.R_drew HO_13.out)
            have n2_:=Aside0.mk (Kd.R_drew HO_997000.out)
            have n3_:=Aside0.mk (Kd.R_drew HO_1004000.out)
            have n4_:=Aside0.mk (Kd.R_drew HO_1015000.out)
            have n5_:=Aside0.mk (blk_drew BK978.out)
            have n6_:=Aside0.mk (blk_drew BK996.out)
            have n7_:=Aside0.mk (blk_drew BK1003.out)
            have n8_:=Aside0.mk (blk_drew BK1014.out)
            have n9_:=Aside0.mk (bwD HB.out)
            clear HO_9
            clear HO_13
            clear HO_997000
            clear HO_1004000
            clear HO_1015000
            clear BK978
            clear BK996
            clear BK1003
            clear BK1014
            clear HB
            have HO_9:=n0_
            have HO_13:=n1_
            have HO_997000:=n2_
            have HO_1004000:=n3_
            have HO_1015000:=n4_
            have BK978:=n5_
            have BK996:=n6_
            have BK1003:=n7_
            have BK1014:=n8_
            have HB:=n9_
            clear n0_ n1_ n2_ n3_ n4_ n5_ n6_ n7_ n8_ n9_
            refine start_ (n:=5) (S:=fun w'=> w'.cell? ⟨gb1003,0,none⟩=some (.slice Ao28 t997.length co28) ∧ w'.cell? ⟨gb1003,1,none⟩=some (.int .i64 t1000) ∧ w'.cell? ⟨gb1003,2,none⟩=some (.string t1001) ∧ w'.cell? ⟨gb1003,3,none⟩=some (.int .i64 t1002) ∧ w'.cell? ⟨gb978,0,none⟩=some (.slice A0_0 l0_0.length c0_0) ∧ w'.cell? ⟨gb978,1,none⟩=some (.int .i64 a0_1) ∧ w'.cell? ⟨gb978,2,none⟩=some (.string a0_2) ∧ w'.cell? ⟨gb978,3,none⟩=some (.int .i64 a0_3)) (ds:= []) #[false,false,false,false,false] (by kernel_rfl) rfl rfl ⟨(blk_cell BK1003.out 0).trans rfl,(blk_cell BK1003.out 1).trans rfl,(blk_cell BK1003.out 2).trans rfl,(blk_cell BK1003.out 3).trans rfl,(blk_cell BK978.out 0).trans rfl,(blk_cell BK978.out 1).trans rfl,(blk_cell BK978.out 2).trans rfl,(blk_cell BK978.out 3).trans rfl⟩ (fun hHeld=> ?_)
            generalize wc.drew=w59 at HO_9 HO_13 HO_997000 HO_1004000 HO_1015000 BK978 BK996 BK1003 BK1014 HB hHeld ⊢
            refine take_ (i:=0) (N:=some 60) (v:=?_) (a':=?_) #[true,false,false,false,false] rfl rfl (by kernel_rfl) (fun _ _ _ h=> h) (Or.inl ⟨by rfl,?_⟩) hHeld ?_ ?_
            rotate_left
            · rintro w' ⟨s0,s1,s2,s3,s4,s5,s6,s7⟩
              go_simp
              with_reducible rfl
            rotate_left
            · simp only [Act.put,List.setIfInBounds_toArray,List.set_cons_zero,List.set_cons_succ,i64_w,i32_w]
              rfl
            refine take_ (i:=1) (N:=some 61) (v:=?_) (a':=?_) #[true,true,false,false,false] rfl rfl (by kernel_rfl) (fun _ _ _ h=> h) (Or.inl ⟨by rfl,?_⟩) hHeld ?_ ?_
            rotate_left
            · rintro w' ⟨s0,s1,s2,s3,s4,s5,s6,s7⟩
              go_simp
              with_reducible rfl
            rotate_left
            · simp only [Act.put,List.setIfInBounds_toArray,List.set_cons_zero,List.set_cons_succ,i64_w,i32_w]
              rfl
            refine one_ (i:=2) (N:=some 62) #[true,true,true,false,false] rfl rfl (by kernel_rfl) (by decide) (fun K hK=> ?_)
            refine goes_ Try.func55 (by kernel_rfl) rfl #[.agg #[.slice A0_0 l0_0.length c0_0,.int .i64 a0_1,.string a0_2,.int .i64 a0_3]] (by rfl) rfl rfl (by (try simp only [List.map_toArray,List.map_cons,List.map_nil]);first|done|rfl|(simp only [List.length_drop,List.length_take];rfl)) ?_
            with_reducible refine (laws_toSource.calls kj12 _ _ l0_0 a0_1 a0_2 a0_3 t1017 t1020 t1021 t1022 _ ?side1 ?side2 A54.out).mono ?_
            (case side1=> repeat (first|exact (Kd.C_below HR0_0.out HB.out)|(with_reducible refine Kd.C_alloc ?_ _)|(with_reducible refine Kd.C_drewN ?_ _)|(with_reducible refine Kd.C_drew ?_)))
            (case side2=> exact HC0_0.out)
            rintro e w60 ⟨v1018,rfl,ho0,hb⟩
            refine ⟨_,rfl,?_⟩
            have n0_:=Aside0.mk (Kd.R_below (by (with_reducible repeat (first|apply Kd.R_alloc|apply Kd.R_drewN|apply Kd.R_drew));exact HO_9.out) hb)
            have n1_:=Aside0.mk (Kd.R_below (by (with_reducible repeat (first|apply Kd.R_alloc|apply Kd.R_drewN|apply Kd.R_drew));exact HO_13.out) hb)
            have n2_:=Aside0.mk (Kd.R_elder' (by (with_reducible repeat (first|apply Kd.R_alloc|apply Kd.R_drewN|apply Kd.R_drew));exact HO_997000.out) (Kd.R_base ho0) hb)
            have n3_:=Aside0.mk (Kd.R_elder' (by (with_reducible repeat (first|apply Kd.R_alloc|apply Kd.R_drewN|apply Kd.R_drew));exact HO_1004000.out) (Kd.R_base ho0) hb)
            have n4_:=Aside0.mk (Kd.R_elder' (by (with_reducible repeat (first|apply Kd.R_alloc|apply Kd.R_drewN|apply Kd.R_drew));exact HO_1015000.out) (Kd.R_base ho0) hb)
            have n5_:=Aside0.mk (Kd.R_lower (Kd.R_new' (Kd.R_new' (Kd.R_new' ho0 (Kd.R_lt (by (with_reducible repeat (first|apply Kd.R_alloc|apply Kd.R_drewN|apply Kd.R_drew));exact HO_997000.out))) (Kd.R_lt (by (with_reducible repeat (first|apply Kd.R_alloc|apply Kd.R_drewN|apply Kd.R_drew));exact HO_1004000.out))) (Kd.R_lt (by (with_reducible repeat (first|apply Kd.R_alloc|apply Kd.R_drewN|apply Kd.R_drew));exact HO_1015000.out))) (below_size (by repeat (first|(with_reducible first|exact HB.out|apply bwA|apply bwN|apply bwD|refine bwS ?_ GE978.out|refine bwS ?_ GE996.out|refine bwS ?_ GE1003.out|refine bwS ?_ GE1014.out)|exact HB.out))))
            have n6_:=Aside0.mk (blk_below (g:=gb978) (o:= .cells #[.slice A0_0 l0_0.length c0_0,.int .i64 a0_1,.string a0_2,.int .i64 a0_3] 61 (0,0)) (by (with_reducible repeat (first|apply bN|apply bd|apply bA));exact BK978.out) hb)
            have n7_:=Aside0.mk (blk_below (g:=gb996) (o:= .cells #[.slice Ao22 t986.length co22,.int .i64 t989,.string t990,.int .i64 t991] 36 (0,0)) (by (with_reducible repeat (first|apply bN|apply bd|apply bA));exact BK996.out) hb)
            have n8_:=Aside0.mk (blk_below (g:=gb1003) (o:= .cells #[.slice Ao28 t997.length co28,.int .i64 t1000,.string t1001,.int .i64 t1002] 36 (0,0)) (by (with_reducible repeat (first|apply bN|apply bd|apply bA));exact BK1003.out) hb)
            have n9_:=Aside0.mk (blk_below (g:=gb1014) (o:= .cells #[.slice Ao34 t1004.length co34,.int .i64 t1007,.string t1008,.int .i64 t1009] 36 (0,0)) (by (with_reducible repeat (first|apply bN|apply bd|apply bA));exact BK1014.out) hb)
            have n10_:=Aside0.mk (below_step (by repeat (first|(with_reducible first|exact HB.out|apply bwA|apply bwN|apply bwD|refine bwS ?_ GE978.out|refine bwS ?_ GE996.out|refine bwS ?_ GE1003.out|refine bwS ?_ GE1014.out)|exact HB.out)) hb)
            clear HO_9
            clear HO_13
            clear HO_997000
            clear HO_1004000
            clear HO_1015000
            clear BK978
            clear BK996
            clear BK1003
            clear BK1014
            clear HB
            have HO_9:=n0_
            have HO_13:=n1_
            have HO_997000:=n2_
            have HO_1004000:=n3_
            have HO_1015000:=n4_
            have HO1019:=n5_
            have BK978:=n6_
            have BK996:=n7_
            have BK1003:=n8_
            have BK1014:=n9_
            have HB:=n10_
            clear n0_ n1_ n2_ n3_ n4_ n5_ n6_ n7_ n8_ n9_ n10_
            (try clear hb)
            (try clear hb2)
            (try clear hk)
            (try clear hi)
            (try clear ho0)
            obtain ⟨Ao61,co61,eo61⟩:=Kd.R_slice HO1019.out
            (first|subst eo61|(injection eo61 with f1_ f2_ f3_;have f4_:=f1_.symm;have f5_:=f3_.symm;clear f1_ f2_ f3_;subst f4_;subst f5_))
            refine hK.out _ _ ⟨(blk_cell BK1003.out 0).trans rfl,(blk_cell BK1003.out 1).trans rfl,(blk_cell BK1003.out 2).trans rfl,(blk_cell BK1003.out 3).trans rfl,(blk_cell BK978.out 0).trans rfl,(blk_cell BK978.out 1).trans rfl,(blk_cell BK978.out 2).trans rfl,(blk_cell BK978.out 3).trans rfl⟩ (fun hHeld=> ?_)
            clear hK K
            refine norm_ (a':=?_) ?_ ?_
            rotate_left
            · show Act.put _ (some 62) _=_
              simp only [Act.put,List.setIfInBounds_toArray,List.set_cons_zero,List.set_cons_succ,i64_w,i32_w]
              rfl
            refine one_ (i:=3) (N:=some 63) #[true,true,true,true,false] rfl rfl (by kernel_rfl) (by decide) (fun K hK=> ?_)
            refine goes_ Try.func36 (by kernel_rfl) rfl #[.agg #[.slice Ao28 t997.length co28,.int .i64 t1000,.string t1001,.int .i64 t1002],.agg #[.slice Ao61 t1017.length co61,.int .i64 t1020,.string t1021,.int .i64 t1022]] (by rfl) rfl rfl (by (try simp only [List.map_toArray,List.map_cons,List.map_nil]);first|done|rfl|(simp only [List.length_drop,List.length_take];rfl)) ?_
            with_reducible refine (laws_eqSource.calls kj12 _ _ t997 t1000 t1001 t1002 _ _ t1017 t1020 t1021 t1022 true _ ?side1 ?side2 ?side3 ?side4 A55.out).mono ?_
            (case side1=> repeat (first|exact (Kd.R_reads' HO_1004000.out).2.2|(with_reducible refine Kd.C_alloc ?_ _)|(with_reducible refine Kd.C_drewN ?_ _)|(with_reducible refine Kd.C_drew ?_)))
            (case side2=> exact (Kd.R_reads' HO_1004000.out).2.1)
            (case side3=> repeat (first|exact (Kd.R_reads' HO1019.out).2.2|(with_reducible refine Kd.C_alloc ?_ _)|(with_reducible refine Kd.C_drewN ?_ _)|(with_reducible refine Kd.C_drew ?_)))
            (case side4=> exact (Kd.R_reads' HO1019.out).2.1)
            rintro e w62 ⟨rfl,hb⟩
            refine ⟨_,rfl,?_⟩
            have n0_:=Aside0.mk (Kd.R_below (by (with_reducible repeat (first|apply Kd.R_alloc|apply Kd.R_drewN|apply Kd.R_drew));exact HO_9.out) hb)
            have n1_:=Aside0.mk (Kd.R_below (by (with_reducible repeat (first|apply Kd.R_alloc|apply Kd.R_drewN|apply Kd.R_drew));exact HO_13.out) hb)
            have n2_:=Aside0.mk (Kd.R_below (by (with_reducible repeat (first|apply Kd.R_alloc|apply Kd.R_drewN|apply Kd.R_drew));exact HO_997000.out) hb)
            have n3_:=Aside0.mk (Kd.R_below (by (with_reducible repeat (first|apply Kd.R_alloc|apply Kd.R_drewN|apply Kd.R_drew));exact HO_1004000.out) hb)
            have n4_:=Aside0.mk (Kd.R_below (by (with_reducible repeat (first|apply Kd.R_alloc|apply Kd.R_drewN|apply Kd.R_drew));exact HO_1015000.out) hb)
            have n5_:=Aside0.mk (Kd.R_below (by (with_reducible repeat (first|apply Kd.R_alloc|apply Kd.R_drewN|apply Kd.R_drew));exact HO1019.out) hb)
            have n6_:=Aside0.mk (blk_below (g:=gb978) (o:= .cells #[.slice A0_0 l0_0.length c0_0,.int .i64 a0_1,.string a0_2,.int .i64 a0_3] 61 (0,0)) (by (with_reducible repeat (first|apply bN|apply bd|apply bA));exact BK978.out) hb)
            have n7_:=Aside0.mk (blk_below (g:=gb996) (o:= .cells #[.slice Ao22 t986.length co22,.int .i64 t989,.string t990,.int .i64 t991] 36 (0,0)) (by (with_reducible repeat (first|apply bN|apply bd|apply bA));exact BK996.out) hb)
            have n8_:=Aside0.mk (blk_below (g:=gb1003) (o:= .cells #[.slice Ao28 t997.length co28,.int .i64 t1000,.string t1001,.int .i64 t1002] 36 (0,0)) (by (with_reducible repeat (first|apply bN|apply bd|apply bA));exact BK1003.out) hb)
            have n9_:=Aside0.mk (blk_below (g:=gb1014) (o:= .cells #[.slice Ao34 t1004.length co34,.int .i64 t1007,.string t1008,.int .i64 t1009] 36 (0,0)) (by (with_reducible repeat (first|apply bN|apply bd|apply bA));exact BK1014.out) hb)
            have n10_:=Aside0.mk (below_step (by repeat (first|(with_reducible first|exact HB.out|apply bwA|apply bwN|apply bwD|refine bwS ?_ GE978.out|refine bwS ?_ GE996.out|refine bwS ?_ GE1003.out|refine bwS ?_ GE1014.out)|exact HB.out)) hb)
            clear HO_9
            clear HO_13
            clear HO_997000
            clear HO_1004000
            clear HO_1015000
            clear HO1019
            clear BK978
            clear BK996
            clear BK1003
            clear BK1014
            clear HB
            have HO_9:=n0_
            have HO_13:=n1_
            have HO_997000:=n2_
            have HO_1004000:=n3_
            have HO_1015000:=n4_
            have HO1019:=n5_
            have BK978:=n6_
            have BK996:=n7_
            have BK1003:=n8_
            have BK1014:=n9_
            have HB:=n10_
            clear n0_ n1_ n2_ n3_ n4_ n5_ n6_ n7_ n8_ n9_ n10_
            (try clear hb)
            (try clear hb2)
            (try clear hk)
            (try clear hi)
            refine hK.out _ _ ⟨(blk_cell BK1003.out 0).trans rfl,(blk_cell BK1003.out 1).trans rfl,(blk_cell BK1003.out 2).trans rfl,(blk_cell BK1003.out 3).trans rfl,(blk_cell BK978.out 0).trans rfl,(blk_cell BK978.out 1).trans rfl,(blk_cell BK978.out 2).trans rfl,(blk_cell BK978.out 3).trans rfl⟩ (fun hHeld=> ?_)
            clear hK K
            refine norm_ (a':=?_) ?_ ?_
            rotate_left
            · show Act.put _ (some 63) _=_
              simp only [Act.put,List.setIfInBounds_toArray,List.set_cons_zero,List.set_cons_succ,i64_w,i32_w]
              rfl
            refine pure_ (i:=4) (N:=some 64) (v:=?_) (a':=?_) #[true,true,true,true,true] rfl rfl (by kernel_rfl) (fun _ _ _ h=> h) (Or.inl ⟨by rfl,?_⟩) ?_ ?_
            rotate_left
            · intro w'
              go_simp
              with_reducible rfl
            rotate_left
            · simp only [Act.put,List.setIfInBounds_toArray,List.set_cons_zero,List.set_cons_succ,i64_w,i32_w]
              rfl
            refine done_ (by kernel_rfl) ?_
            have hnb63:=NB1003_978.out
            have hnc63:=NB978_1003.out
            have hnb64:=NB1003_996.out
            have hnc64:=NB996_1003.out
            have hnb65:=NB1003_1014.out
            have hnc65:=NB1014_1003.out
            have hcz66_0:w62.cell? ⟨gb1003,0,none⟩=some (.slice Ao28 t997.length co28):=(blk_cell BK1003.out 0).trans rfl
            have hcz66_1:w62.cell? ⟨gb1003,1,none⟩=some (.int .i64 t1000):=(blk_cell BK1003.out 1).trans rfl
            have hcz66_2:w62.cell? ⟨gb1003,2,none⟩=some (.string t1001):=(blk_cell BK1003.out 2).trans rfl
            have hcz66_3:w62.cell? ⟨gb1003,3,none⟩=some (.int .i64 t1002):=(blk_cell BK1003.out 3).trans rfl
            have hfz66_0:=blk_frozen BK1003.out 0
            have hfz66_1:=blk_frozen BK1003.out 1
            have hfz66_2:=blk_frozen BK1003.out 2
            have hfz66_3:=blk_frozen BK1003.out 3
            go_upto_region 14 with (first|((with_reducible refine gate_callee (f:=37) rfl ?_);refine goesL_ (some 67) rfl rfl Try.func37 (by kernel_rfl) rfl #[.agg #[.slice Ao28 t997.length co28,.int .i64 t1000,.string t1001,.int .i64 t1002],.int .i64 1] rfl (by (try simp only [List.map_toArray,List.map_cons,List.map_nil]);first|done|rfl|(simp only [List.length_drop,List.length_take];rfl)) ?_;(with_reducible refine (laws_markSource.calls kj12 (fun k_=> some k_=(.slice Ao28 t997.length co28:Value).ownBlock) (.slice Ao28 t997.length co28) t997 t1000 t1001 t1002 1 t1024 t1025 w _ ?side1 ?side2 A57.out).mono ?_);(case side1=> repeat (first|(with_reducible first|exact HB.out|apply bwA|apply bwN|apply bwD|refine bwS ?_ GE978.out|refine bwS ?_ GE996.out|refine bwS ?_ GE1003.out|refine bwS ?_ GE1014.out)|exact HB.out));(case side2=> exact Kd.R_tight rfl HO_1004000.out);rintro e w67 ⟨rfl,hy0,hb,hkp⟩;refine ⟨_,rfl,?_⟩;have n0_:=Aside0.mk (Kd.R_mono (ok':=fun k_=> some k_ ≠ (v1011:Value).ownBlock) (Kd.R_keptB ((Kd.R_apart' HO_9.out (Kd.R_typed HO_1004000.out) (by decide))) hkp (fun k_ hk_ hs_=> (hk_.2) hs_)) (fun k_ hk_=> hk_.1.1));have n1_:=Aside0.mk (Kd.R_mono (ok':=fun k_=> some k_ ≠ (v993:Value).ownBlock) (Kd.R_keptB ((Kd.R_apart' HO_13.out (Kd.R_typed HO_1004000.out) (by decide))) hkp (fun k_ hk_ hs_=> (hk_.2) hs_)) (fun k_ hk_=> hk_.1.1));have n2_:=Aside0.mk (Kd.R_mono (ok':=fun k_=> some k_ ≠ (.slice Ao28 t997.length co28:Value).ownBlock ∧ some k_ ≠ (.slice Ao34 t1004.length co34:Value).ownBlock ∧ some k_ ≠ (.slice Ao61 t1017.length co61:Value).ownBlock) (Kd.R_keptB (HO_997000.out) hkp (fun k_ hk_ hs_=> (hk_.1.1) hs_)) (fun k_ hk_=> ⟨hk_.1.1.1,hk_.1.1.2,hk_.1.2⟩));have n3_:=Aside0.mk (Kd.R_reok rfl hy0 (fun k_ e_=> HO_1004000.out.1 k_ e_));have n4_:=Aside0.mk (Kd.R_mono (ok':=fun k_=> some k_ ≠ (.slice Ao22 t986.length co22:Value).ownBlock ∧ some k_ ≠ (.slice Ao28 t997.length co28:Value).ownBlock ∧ some k_ ≠ (.slice Ao61 t1017.length co61:Value).ownBlock) (Kd.R_keptB (HO_1015000.out) hkp (fun k_ hk_ hs_=> (hk_.1.2) hs_)) (fun k_ hk_=> ⟨hk_.1.1.1,hk_.1.1.2,hk_.1.2⟩));have n5_:=Aside0.mk (blk_kept (by (with_reducible repeat (first|apply bN|apply bd|apply bA));exact BK978.out) hkp (fun hs_=> (fun e_=> (Kd.R_ne HO_1004000.out BK978.out (by decide)) e_) hs_));have n6_:=Aside0.mk (blk_kept (by (with_reducible repeat (first|apply bN|apply bd|apply bA));exact BK996.out) hkp (fun hs_=> (fun e_=> (Kd.R_ne HO_1004000.out BK996.out (by decide)) e_) hs_));have n7_:=Aside0.mk (blk_kept (by (with_reducible repeat (first|apply bN|apply bd|apply bA));exact BK1003.out) hkp (fun hs_=> (fun e_=> (Kd.R_ne HO_1004000.out BK1003.out (by decide)) e_) hs_));have n8_:=Aside0.mk (blk_kept (by (with_reducible repeat (first|apply bN|apply bd|apply bA));exact BK1014.out) hkp (fun hs_=> (fun e_=> (Kd.R_ne HO_1004000.out BK1014.out (by decide)) e_) hs_));have n9_:=Aside0.mk (Kd.R_mono (ok':=fun k_=> some k_ ≠ (.slice Ao22 t986.length co22:Value).ownBlock ∧ some k_ ≠ (.slice Ao28 t997.length co28:Value).ownBlock ∧ some k_ ≠ (.slice Ao34 t1004.length co34:Value).ownBlock) (Kd.R_keptB (HO1019.out) hkp (fun k_ hk_ hs_=> (hk_.1.2) hs_)) (fun k_ hk_=> ⟨hk_.1.1.1.2,hk_.1.1.2,hk_.1.2⟩));have n10_:=Aside0.mk (hb);clear HO_9;clear HO_13;clear HO_997000;clear HO_1004000;clear HO_1015000;clear BK978;clear BK996;clear BK1003;clear BK1014;clear HO1019;clear HB;have HO_9:=n0_;have HO_13:=n1_;have HO_997000:=n2_;have HO_1004000:=n3_;have HO_1015000:=n4_;have BK978:=n5_;have BK996:=n6_;have BK1003:=n7_;have BK1014:=n8_;have HO1019:=n9_;have HB:=n10_;clear n0_ n1_ n2_ n3_ n4_ n5_ n6_ n7_ n8_ n9_ n10_;(try clear hb);(try clear hkp);(try clear hy0)))
            (try simp only [Act.put,List.setIfInBounds_toArray,List.set_cons_zero,List.set_cons_succ])
            go_cut [86] (fun v86 wc=> ∃ (kq:Nat) (x86_57:Bool),v86= .bool x86_57 ∧ Aside0 (laws_FnExactTakePlaces.j1 kq a1 a2 t992 t995 t1010 x86_57 l0_0 a0_1 a0_2 a0_3 t986 t989 t990 t991 t1004 t1007 t1008 t1009=some r) ∧ Aside0 (kq ≤ kj12) ∧ Aside0 (Kd.R (Kd.int .i64) 3 wc w.heap.size (fun k_=> some k_ ≠ (v1011:Value).ownBlock) v993 t992) ∧ Aside0 (Kd.R (Kd.int .i64) 3 wc w.heap.size (fun k_=> some k_ ≠ (v993:Value).ownBlock) v1011 t1010) ∧ Aside0 (Kd.R k79 79 wc w.heap.size (fun k_=> some k_ ≠ ((.slice Ao28 t997.length co28):Value).ownBlock ∧ some k_ ≠ ((.slice Ao34 t1004.length co34):Value).ownBlock) (.slice Ao22 t986.length co22) t986) ∧ Aside0 (Kd.R k79 79 wc w.heap.size (fun k_=> some k_ ≠ ((.slice Ao22 t986.length co22):Value).ownBlock ∧ some k_ ≠ ((.slice Ao34 t1004.length co34):Value).ownBlock) (.slice Ao28 t997.length co28) t1025) ∧ Aside0 (Kd.R k79 79 wc w.heap.size (fun k_=> some k_ ≠ ((.slice Ao22 t986.length co22):Value).ownBlock ∧ some k_ ≠ ((.slice Ao28 t997.length co28):Value).ownBlock) (.slice Ao34 t1004.length co34) t1004) ∧ Aside0 (wc.heap[gb978]?=some (.cells #[(.slice A0_0 l0_0.length c0_0),.int .i64 a0_1,.string a0_2,.int .i64 a0_3] 61 (0,0))) ∧ Aside0 (wc.heap[gb996]?=some (.cells #[(.slice Ao22 t986.length co22),.int .i64 t989,.string t990,.int .i64 t991] 36 (0,0))) ∧ Aside0 (wc.heap[gb1003]?=some (.cells #[(.slice Ao28 t997.length co28),.int .i64 t1000,.string t1001,.int .i64 t1002] 36 (0,0))) ∧ Aside0 (wc.heap[gb1014]?=some (.cells #[(.slice Ao34 t1004.length co34),.int .i64 t1007,.string t1008,.int .i64 t1009] 36 (0,0))) ∧ Aside0 (Below w.heap.size w wc))
            case first=>
              have H:=HC58.out
              clear HC58
              by_cases c68:t1024 < 0
              · rw [if_pos c68] at H
                exact absurd H (by simp)
              · rw [if_neg c68] at H
                have c68b0:decide (t1024 < 0)=false:=decide_eq_false c68
                clear c68
                (first|rw [c68b0]|(simp only [i64_w,i32_w];rw [c68b0])|skip)
                replace H:=Option.bind_eq_some_iff.mp H
                obtain ⟨t1026,A690,H⟩:=H
                replace H:(if t1026=true then ((laws_eqIntS.f kj12 t1010 t992).bind fun t1027=> (if t1027=true then (laws_FnExactTakePlaces.j1 kj12 a1 a2 t992 t995 t1010 (t1013 !=t995) l0_0 a0_1 a0_2 a0_3 t986 t989 t990 t991 t1004 t1007 t1008 t1009) else (none))) else (none))=some r:=H
                have A69:=Aside0.mk A690
                clear A690
                by_cases c70:t1026=true
                · subst c70
                  have H1:((laws_eqIntS.f kj12 t1010 t992).bind fun t1027=> (if t1027=true then (laws_FnExactTakePlaces.j1 kj12 a1 a2 t992 t995 t1010 (t1013 !=t995) l0_0 a0_1 a0_2 a0_3 t986 t989 t990 t991 t1004 t1007 t1008 t1009) else (none)))=some r:=by rw [if_pos rfl] at H;exact H
                  clear H
                  have H:=H1
                  clear H1
                  replace H:=Option.bind_eq_some_iff.mp H
                  obtain ⟨t1027,A710,H⟩:=H
                  replace H:(if t1027=true then (laws_FnExactTakePlaces.j1 kj12 a1 a2 t992 t995 t1010 (t1013 !=t995) l0_0 a0_1 a0_2 a0_3 t986 t989 t990 t991 t1004 t1007 t1008 t1009) else (none))=some r:=H
                  have A71:=Aside0.mk A710
                  clear A710
                  by_cases c72:t1027=true
                  · subst c72
                    have H1:(laws_FnExactTakePlaces.j1 kj12 a1 a2 t992 t995 t1010 (t1013 !=t995) l0_0 a0_1 a0_2 a0_3 t986 t989 t990 t991 t1004 t1007 t1008 t1009)=some r:=by rw [if_pos rfl] at H;exact H
                    clear H
                    have H:=H1
                    clear H1
                    have H':=Aside0.mk H
                    clear H
                    have hnb73:=NB1014_978.out
                    have hnc73:=NB978_1014.out
                    have hnb74:=NB1014_996.out
                    have hnc74:=NB996_1014.out
                    have hnb75:=NB1014_1003.out
                    have hnc75:=NB1003_1014.out
                    have hcz76_0:w67.cell? ⟨gb1014,0,none⟩=some (.slice Ao34 t1004.length co34):=(blk_cell BK1014.out 0).trans rfl
                    have hcz76_1:w67.cell? ⟨gb1014,1,none⟩=some (.int .i64 t1007):=(blk_cell BK1014.out 1).trans rfl
                    have hcz76_2:w67.cell? ⟨gb1014,2,none⟩=some (.string t1008):=(blk_cell BK1014.out 2).trans rfl
                    have hcz76_3:w67.cell? ⟨gb1014,3,none⟩=some (.int .i64 t1009):=(blk_cell BK1014.out 3).trans rfl
                    have hfz76_0:=blk_frozen BK1014.out 0
                    have hfz76_1:=blk_frozen BK1014.out 1
                    have hfz76_2:=blk_frozen BK1014.out 2
                    have hfz76_3:=blk_frozen BK1014.out 3
                    have hnb77:=NB996_978.out
                    have hnc77:=NB978_996.out
                    have hnb78:=NB996_1003.out
                    have hnc78:=NB1003_996.out
                    have hcz79_0:w67.cell? ⟨gb996,0,none⟩=some (.slice Ao22 t986.length co22):=(blk_cell BK996.out 0).trans rfl
                    have hcz79_1:w67.cell? ⟨gb996,1,none⟩=some (.int .i64 t989):=(blk_cell BK996.out 1).trans rfl
                    have hcz79_2:w67.cell? ⟨gb996,2,none⟩=some (.string t990):=(blk_cell BK996.out 2).trans rfl
                    have hcz79_3:w67.cell? ⟨gb996,3,none⟩=some (.int .i64 t991):=(blk_cell BK996.out 3).trans rfl
                    have hfz79_0:=blk_frozen BK996.out 0
                    have hfz79_1:=blk_frozen BK996.out 1
                    have hfz79_2:=blk_frozen BK996.out 2
                    have hfz79_3:=blk_frozen BK996.out 3
                    go_wp2_with (first|(go_at_call 36;(with_reducible refine (laws_eqSource.calls kj12 _ _ t1004 t1007 t1008 t1009 _ _ t986 t989 t990 t991 true _ ?side1 ?side2 ?side3 ?side4 A69.out).mono ?_);(case side1=> repeat (first|exact (Kd.R_reads' HO_1015000.out).2.2|(with_reducible refine Kd.C_alloc ?_ _)|(with_reducible refine Kd.C_drewN ?_ _)|(with_reducible refine Kd.C_drew ?_)));(case side2=> exact (Kd.R_reads' HO_1015000.out).2.1);(case side3=> repeat (first|exact (Kd.R_reads' HO_997000.out).2.2|(with_reducible refine Kd.C_alloc ?_ _)|(with_reducible refine Kd.C_drewN ?_ _)|(with_reducible refine Kd.C_drew ?_)));(case side4=> exact (Kd.R_reads' HO_997000.out).2.1);rintro e w80 ⟨rfl,hb⟩;have n0_:=Aside0.mk (Kd.R_below (by (with_reducible repeat (first|apply Kd.R_alloc|apply Kd.R_drewN|apply Kd.R_drew));exact HO_9.out) hb);have n1_:=Aside0.mk (Kd.R_below (by (with_reducible repeat (first|apply Kd.R_alloc|apply Kd.R_drewN|apply Kd.R_drew));exact HO_13.out) hb);have n2_:=Aside0.mk (Kd.R_below (by (with_reducible repeat (first|apply Kd.R_alloc|apply Kd.R_drewN|apply Kd.R_drew));exact HO_997000.out) hb);have n3_:=Aside0.mk (Kd.R_below (by (with_reducible repeat (first|apply Kd.R_alloc|apply Kd.R_drewN|apply Kd.R_drew));exact HO_1004000.out) hb);have n4_:=Aside0.mk (Kd.R_below (by (with_reducible repeat (first|apply Kd.R_alloc|apply Kd.R_drewN|apply Kd.R_drew));exact HO_1015000.out) hb);have n5_:=Aside0.mk (Kd.R_below (by (with_reducible repeat (first|apply Kd.R_alloc|apply Kd.R_drewN|apply Kd.R_drew));exact HO1019.out) hb);have n6_:=Aside0.mk (blk_below (g:=gb978) (o:= .cells #[.slice A0_0 l0_0.length c0_0,.int .i64 a0_1,.string a0_2,.int .i64 a0_3] 61 (0,0)) (by (with_reducible repeat (first|apply bN|apply bd|apply bA));exact BK978.out) hb);have n7_:=Aside0.mk (blk_below (g:=gb996) (o:= .cells #[.slice Ao22 t986.length co22,.int .i64 t989,.string t990,.int .i64 t991] 36 (0,0)) (by (with_reducible repeat (first|apply bN|apply bd|apply bA));exact BK996.out) hb);have n8_:=Aside0.mk (blk_below (g:=gb1003) (o:= .cells #[.slice Ao28 t997.length co28,.int .i64 t1000,.string t1001,.int .i64 t1002] 36 (0,0)) (by (with_reducible repeat (first|apply bN|apply bd|apply bA));exact BK1003.out) hb);have n9_:=Aside0.mk (blk_below (g:=gb1014) (o:= .cells #[.slice Ao34 t1004.length co34,.int .i64 t1007,.string t1008,.int .i64 t1009] 36 (0,0)) (by (with_reducible repeat (first|apply bN|apply bd|apply bA));exact BK1014.out) hb);have n10_:=Aside0.mk (below_step (by repeat (first|(with_reducible first|exact HB.out|apply bwA|apply bwN|apply bwD|refine bwS ?_ GE978.out|refine bwS ?_ GE996.out|refine bwS ?_ GE1003.out|refine bwS ?_ GE1014.out)|exact HB.out)) hb);clear HO_9;clear HO_13;clear HO_997000;clear HO_1004000;clear HO_1015000;clear HO1019;clear BK978;clear BK996;clear BK1003;clear BK1014;clear HB;have HO_9:=n0_;have HO_13:=n1_;have HO_997000:=n2_;have HO_1004000:=n3_;have HO_1015000:=n4_;have HO1019:=n5_;have BK978:=n6_;have BK996:=n7_;have BK1003:=n8_;have BK1014:=n9_;have HB:=n10_;clear n0_ n1_ n2_ n3_ n4_ n5_ n6_ n7_ n8_ n9_ n10_;(try clear hb);(try clear hb2);(try clear hk);(try clear hi);obtain ⟨Ao81,co81,eo81⟩:=Kd.R_slice HO_13.out;subst eo81;obtain ⟨Ao82,co82,eo82⟩:=Kd.R_slice HO_9.out;subst eo82)|(go_at_call 77;(with_reducible refine (laws_eqIntS.calls kj12 _ _ t1010 _ _ t992 true _ ?side1 ?side2 ?side3 ?side4 A71.out).mono ?_);(case side1=> repeat (first|exact (Kd.R_reads' HO_13.out).2.2|(with_reducible refine Kd.C_alloc ?_ _)|(with_reducible refine Kd.C_drewN ?_ _)|(with_reducible refine Kd.C_drew ?_)));(case side2=> exact (Kd.R_reads' HO_13.out).2.1);(case side3=> repeat (first|exact (Kd.R_reads' HO_9.out).2.2|(with_reducible refine Kd.C_alloc ?_ _)|(with_reducible refine Kd.C_drewN ?_ _)|(with_reducible refine Kd.C_drew ?_)));(case side4=> exact (Kd.R_reads' HO_9.out).2.1);rintro e w' ⟨rfl,⟨nd,rfl⟩⟩))
                    go_meet
                    case rel=> exact ⟨_,((t1013 !=t995)),(by first|rfl|(simp;done)|(simp [*];done)),H',⟨by have:=HJ12.out;first|omega|exact Nat.le_refl _⟩,⟨by (with_reducible repeat (first|apply Kd.R_alloc|apply Kd.R_drewN|apply Kd.R_drew));exact HO_9.out⟩,⟨by (with_reducible repeat (first|apply Kd.R_alloc|apply Kd.R_drewN|apply Kd.R_drew));exact HO_13.out⟩,⟨by (with_reducible repeat (first|apply Kd.R_alloc|apply Kd.R_drewN|apply Kd.R_drew));exact Kd.R_mono HO_997000.out (fun _ hk=> ⟨hk.1,hk.2.1⟩)⟩,⟨by (with_reducible repeat (first|apply Kd.R_alloc|apply Kd.R_drewN|apply Kd.R_drew));exact Kd.R_mono HO_1004000.out (fun _ hk=> ⟨hk.1.1,hk.1.2⟩)⟩,⟨by (with_reducible repeat (first|apply Kd.R_alloc|apply Kd.R_drewN|apply Kd.R_drew));exact Kd.R_mono HO_1015000.out (fun _ hk=> ⟨hk.1,hk.2.1⟩)⟩,⟨by (with_reducible repeat (first|apply bN|apply bd|apply bA));exact BK978.out⟩,⟨by (with_reducible repeat (first|apply bN|apply bd|apply bA));exact BK996.out⟩,⟨by (with_reducible repeat (first|apply bN|apply bd|apply bA));exact BK1003.out⟩,⟨by (with_reducible repeat (first|apply bN|apply bd|apply bA));exact BK1014.out⟩,⟨by repeat (first|(with_reducible first|exact HB.out|apply bwA|apply bwN|apply bwD|refine bwS ?_ GE978.out|refine bwS ?_ GE996.out|refine bwS ?_ GE1003.out|refine bwS ?_ GE1014.out)|exact HB.out)⟩⟩
                  · replace c72:=Bool.eq_false_iff.mpr c72
                    subst c72
                    have H1:(none)=some r:=by rw [if_neg (show ¬ (false=true) by decide)] at H;exact H
                    clear H
                    have H:=H1
                    clear H1
                    exact absurd H (by simp)
                · replace c70:=Bool.eq_false_iff.mpr c70
                  subst c70
                  have H1:(none)=some r:=by rw [if_neg (show ¬ (false=true) by decide)] at H;exact H
                  clear H
                  have H:=H1
                  clear H1
                  exact absurd H (by simp)
            case rest=>
              clear HC58
              try clear c2
              try clear p2
              try clear c3
              try clear c4
              try clear c5
              try clear c5b0
              try clear c6
              try clear c7
              try clear c20
              try clear c23
              try clear c29
              try clear c30
              try clear c35
              try clear c36
              try clear c37
              try clear c40
              try clear c42
              try clear c43
              try clear c44
              try clear c45
              try clear c47
              try clear c48
              try clear c53
              try clear c55
              try clear c56
              try clear c63
              try clear c64
              try clear c65
              try clear c68
              try clear c68b0
              try clear c70
              try clear c72
              try clear c73
              try clear c74
              try clear c75
              try clear c76
              try clear c77
              try clear c78
              try clear hcz15_0
              try clear hcz15_1
              try clear hcz15_2
              try clear hcz15_3
              try clear hcz17_0
              try clear hcz17_1
              try clear hcz17_2
              try clear hcz17_3
              try clear hcz24_0
              try clear hcz24_1
              try clear hcz24_2
              try clear hcz24_3
              try clear hcz25_0
              try clear hcz25_1
              try clear hcz25_2
              try clear hcz25_3
              try clear hcz31_0
              try clear hcz31_1
              try clear hcz31_2
              try clear hcz31_3
              try clear hcz38_0
              try clear hcz38_1
              try clear hcz38_2
              try clear hcz38_3
              try clear hcz46_0
              try clear hcz46_1
              try clear hcz46_2
              try clear hcz46_3
              try clear hcz49_0
              try clear hcz49_1
              try clear hcz49_2
              try clear hcz49_3
              try clear hcz66_0
              try clear hcz66_1
              try clear hcz66_2
              try clear hcz66_3
              try clear hcz76_0
              try clear hcz76_1
              try clear hcz76_2
              try clear hcz76_3
              try clear hcz79_0
              try clear hcz79_1
              try clear hcz79_2
              try clear hcz79_3
              try clear hcz7_0
              try clear hcz7_1
              try clear hcz7_2
              try clear hcz7_3
              try clear hfz15_0
              try clear hfz15_1
              try clear hfz15_2
              try clear hfz15_3
              try clear hfz17_0
              try clear hfz17_1
              try clear hfz17_2
              try clear hfz17_3
              try clear hfz24_0
              try clear hfz24_1
              try clear hfz24_2
              try clear hfz24_3
              try clear hfz25_0
              try clear hfz25_1
              try clear hfz25_2
              try clear hfz25_3
              try clear hfz31_0
              try clear hfz31_1
              try clear hfz31_2
              try clear hfz31_3
              try clear hfz38_0
              try clear hfz38_1
              try clear hfz38_2
              try clear hfz38_3
              try clear hfz46_0
              try clear hfz46_1
              try clear hfz46_2
              try clear hfz46_3
              try clear hfz49_0
              try clear hfz49_1
              try clear hfz49_2
              try clear hfz49_3
              try clear hfz66_0
              try clear hfz66_1
              try clear hfz66_2
              try clear hfz66_3
              try clear hfz76_0
              try clear hfz76_1
              try clear hfz76_2
              try clear hfz76_3
              try clear hfz79_0
              try clear hfz79_1
              try clear hfz79_2
              try clear hfz79_3
              try clear hfz7_0
              try clear hfz7_1
              try clear hfz7_2
              try clear hfz7_3
              try clear p2
              obtain ⟨kq,x86_57,rfl,HA,HJ57,HO_9,HO_13,HO_997000,HO_1004000,HO_1015000,BK978,BK996,BK1003,BK1014,HB⟩:=hcut
              have hl1004000_57:=(Kd.R_reads' HO_1004000.out).1
              rw [hl1004000_57] at HO_1004000
              (try simp only [hl1004000_57])
              (try simp only [hl1004000_57] at BK978)
              (try simp only [hl1004000_57] at BK996)
              (try simp only [hl1004000_57] at BK1003)
              (try simp only [hl1004000_57] at BK1014)
              (try simp only [hl1004000_57] at HO_9)
              (try simp only [hl1004000_57] at HO_13)
              (try simp only [hl1004000_57] at HO_997000)
              (try simp only [hl1004000_57] at HO_1015000)
              cases kq with
              |zero=> exact absurd HA.out (by simp [laws_FnExactTakePlaces.j1])
              |succ kj57=>
                have H:=HA.out
                clear HA
                simp only [laws_FnExactTakePlaces.j1] at H
                by_cases c83:x86_57=true
                · subst c83
                  have H1:(none)=some r:=by rw [if_pos rfl] at H;exact H
                  clear H
                  have H:=H1
                  clear H1
                  exact absurd H (by simp)
                · replace c83:=Bool.eq_false_iff.mpr c83
                  subst c83
                  have H1:((laws_markSource.f kj57 t1004 t1007 t1008 t1009 1).bind fun bt1028=> ((laws_markIntS.f kj57 t1010 bt1028.1).bind fun bt1030=> ((laws_heldSource.f kj57 bt1028.2 t1007 t1008 t1009 1).bind fun t1032=> (if t1032 < 0 then (none) else ((laws_heldIntS.f kj57 bt1030.2 t1032).bind fun t1033=> (if t1033 < 0 then (none) else (if t1033=bt1030.1 then ((laws_toSource.f kj57 l0_0 a0_1 a0_2 a0_3).bind fun bt1034=> ((impl_TakePlaces.f kj57 bt1034.1 bt1034.2.1 bt1034.2.2.1 bt1034.2.2.2 a1 a2).bind fun bt1040=> ((laws_eqSource.f kj57 bt1040.1 bt1040.2.1 bt1040.2.2.1 bt1040.2.2.2.1 t986 t989 t990 t991).bind fun t1051=> (if t1051=true then ((laws_eqIntS.f kj57 bt1040.2.2.2.2.1 t992).bind fun t1052=> (if t1052=true then (laws_FnExactTakePlaces.j2 kj57 bt1030.2 bt1030.1 (bt1040.2.2.2.2.2 !=t995) bt1028.2 t1007 t1008 t1009) else (none))) else (none))))) else (none))))))))=some r:=by rw [if_neg (show ¬ (false=true) by decide)] at H;exact H
                  clear H
                  have H:=H1
                  clear H1
                  replace H:=Option.bind_eq_some_iff.mp H
                  obtain ⟨⟨t1028,t1029⟩,A840,H⟩:=H
                  replace H:((laws_markIntS.f kj57 t1010 t1028).bind fun bt1030=> ((laws_heldSource.f kj57 t1029 t1007 t1008 t1009 1).bind fun t1032=> (if t1032 < 0 then (none) else ((laws_heldIntS.f kj57 bt1030.2 t1032).bind fun t1033=> (if t1033 < 0 then (none) else (if t1033=bt1030.1 then ((laws_toSource.f kj57 l0_0 a0_1 a0_2 a0_3).bind fun bt1034=> ((impl_TakePlaces.f kj57 bt1034.1 bt1034.2.1 bt1034.2.2.1 bt1034.2.2.2 a1 a2).bind fun bt1040=> ((laws_eqSource.f kj57 bt1040.1 bt1040.2.1 bt1040.2.2.1 bt1040.2.2.2.1 t986 t989 t990 t991).bind fun t1051=> (if t1051=true then ((laws_eqIntS.f kj57 bt1040.2.2.2.2.1 t992).bind fun t1052=> (if t1052=true then (laws_FnExactTakePlaces.j2 kj57 bt1030.2 bt1030.1 (bt1040.2.2.2.2.2 !=t995) t1029 t1007 t1008 t1009) else (none))) else (none))))) else (none)))))))=some r:=H
                  have A84:=Aside0.mk A840
                  clear A840
                  replace H:=Option.bind_eq_some_iff.mp H
                  obtain ⟨⟨t1030,t1031⟩,A850,H⟩:=H
                  replace H:((laws_heldSource.f kj57 t1029 t1007 t1008 t1009 1).bind fun t1032=> (if t1032 < 0 then (none) else ((laws_heldIntS.f kj57 t1031 t1032).bind fun t1033=> (if t1033 < 0 then (none) else (if t1033=t1030 then ((laws_toSource.f kj57 l0_0 a0_1 a0_2 a0_3).bind fun bt1034=> ((impl_TakePlaces.f kj57 bt1034.1 bt1034.2.1 bt1034.2.2.1 bt1034.2.2.2 a1 a2).bind fun bt1040=> ((laws_eqSource.f kj57 bt1040.1 bt1040.2.1 bt1040.2.2.1 bt1040.2.2.2.1 t986 t989 t990 t991).bind fun t1051=> (if t1051=true then ((laws_eqIntS.f kj57 bt1040.2.2.2.2.1 t992).bind fun t1052=> (if t1052=true then (laws_FnExactTakePlaces.j2 kj57 t1031 t1030 (bt1040.2.2.2.2.2 !=t995) t1029 t1007 t1008 t1009) else (none))) else (none))))) else (none))))))=some r:=H
                  have A85:=Aside0.mk A850
                  clear A850
                  replace H:=Option.bind_eq_some_iff.mp H
                  obtain ⟨t1032,A860,H⟩:=H
                  replace H:(if t1032 < 0 then (none) else ((laws_heldIntS.f kj57 t1031 t1032).bind fun t1033=> (if t1033 < 0 then (none) else (if t1033=t1030 then ((laws_toSource.f kj57 l0_0 a0_1 a0_2 a0_3).bind fun bt1034=> ((impl_TakePlaces.f kj57 bt1034.1 bt1034.2.1 bt1034.2.2.1 bt1034.2.2.2 a1 a2).bind fun bt1040=> ((laws_eqSource.f kj57 bt1040.1 bt1040.2.1 bt1040.2.2.1 bt1040.2.2.2.1 t986 t989 t990 t991).bind fun t1051=> (if t1051=true then ((laws_eqIntS.f kj57 bt1040.2.2.2.2.1 t992).bind fun t1052=> (if t1052=true then (laws_FnExactTakePlaces.j2 kj57 t1031 t1030 (bt1040.2.2.2.2.2 !=t995) t1029 t1007 t1008 t1009) else (none))) else (none))))) else (none)))))=some r:=H
                  have A86:=Aside0.mk A860
                  clear A860
                  by_cases c87:t1032 < 0
                  · rw [if_pos c87] at H
                    exact absurd H (by simp)
                  · rw [if_neg c87] at H
                    have c87b0:decide (t1032 < 0)=false:=decide_eq_false c87
                    clear c87
                    replace H:=Option.bind_eq_some_iff.mp H
                    obtain ⟨t1033,A880,H⟩:=H
                    replace H:(if t1033 < 0 then (none) else (if t1033=t1030 then ((laws_toSource.f kj57 l0_0 a0_1 a0_2 a0_3).bind fun bt1034=> ((impl_TakePlaces.f kj57 bt1034.1 bt1034.2.1 bt1034.2.2.1 bt1034.2.2.2 a1 a2).bind fun bt1040=> ((laws_eqSource.f kj57 bt1040.1 bt1040.2.1 bt1040.2.2.1 bt1040.2.2.2.1 t986 t989 t990 t991).bind fun t1051=> (if t1051=true then ((laws_eqIntS.f kj57 bt1040.2.2.2.2.1 t992).bind fun t1052=> (if t1052=true then (laws_FnExactTakePlaces.j2 kj57 t1031 t1030 (bt1040.2.2.2.2.2 !=t995) t1029 t1007 t1008 t1009) else (none))) else (none))))) else (none)))=some r:=H
                    have A88:=Aside0.mk A880
                    clear A880
                    by_cases c89:t1033 < 0
                    · rw [if_pos c89] at H
                      exact absurd H (by simp)
                    · rw [if_neg c89] at H
                      have c89b0:decide (t1033 < 0)=false:=decide_eq_false c89
                      clear c89
                      by_cases c90:t1033=t1030
                      · rw [if_pos c90] at H
                        have c90b0:(t1033==t1030)=true:=beq_iff_eq.mpr c90
                        have c90b1:(t1033 !=t1030)=false:=bne_eq_false_iff_eq.mpr c90
                        clear c90
                        replace H:=Option.bind_eq_some_iff.mp H
                        obtain ⟨⟨t1034,t1037,t1038,t1039⟩,A910,H⟩:=H
                        replace H:((impl_TakePlaces.f kj57 t1034 t1037 t1038 t1039 a1 a2).bind fun bt1040=> ((laws_eqSource.f kj57 bt1040.1 bt1040.2.1 bt1040.2.2.1 bt1040.2.2.2.1 t986 t989 t990 t991).bind fun t1051=> (if t1051=true then ((laws_eqIntS.f kj57 bt1040.2.2.2.2.1 t992).bind fun t1052=> (if t1052=true then (laws_FnExactTakePlaces.j2 kj57 t1031 t1030 (bt1040.2.2.2.2.2 !=t995) t1029 t1007 t1008 t1009) else (none))) else (none))))=some r:=H
                        have A91:=Aside0.mk A910
                        clear A910
                        replace H:=Option.bind_eq_some_iff.mp H
                        obtain ⟨⟨t1040,t1043,t1044,t1045,t1046,t1049⟩,A920,H⟩:=H
                        replace H:((laws_eqSource.f kj57 t1040 t1043 t1044 t1045 t986 t989 t990 t991).bind fun t1051=> (if t1051=true then ((laws_eqIntS.f kj57 t1046 t992).bind fun t1052=> (if t1052=true then (laws_FnExactTakePlaces.j2 kj57 t1031 t1030 (t1049 !=t995) t1029 t1007 t1008 t1009) else (none))) else (none)))=some r:=H
                        have A92:=Aside0.mk A920
                        clear A920
                        have HC93:=Aside0.mk H
                        clear H
                        have hnb94:=NB1014_978.out
                        have hnc94:=NB978_1014.out
                        have hnb95:=NB1014_996.out
                        have hnc95:=NB996_1014.out
                        have hnb96:=NB1014_1003.out
                        have hnc96:=NB1003_1014.out
                        have hcz97_0:wc.cell? ⟨gb1014,0,none⟩=some (.slice Ao34 t1004.length co34):=(blk_cell BK1014.out 0).trans rfl
                        have hcz97_1:wc.cell? ⟨gb1014,1,none⟩=some (.int .i64 t1007):=(blk_cell BK1014.out 1).trans rfl
                        have hcz97_2:wc.cell? ⟨gb1014,2,none⟩=some (.string t1008):=(blk_cell BK1014.out 2).trans rfl
                        have hcz97_3:wc.cell? ⟨gb1014,3,none⟩=some (.int .i64 t1009):=(blk_cell BK1014.out 3).trans rfl
                        have hfz97_0:=blk_frozen BK1014.out 0
                        have hfz97_1:=blk_frozen BK1014.out 1
                        have hfz97_2:=blk_frozen BK1014.out 2
                        have hfz97_3:=blk_frozen BK1014.out 3
                        go_upto_region 29 with (first|((with_reducible refine gate_callee (f:=37) rfl ?_);refine goesL_ (some 89) rfl rfl Try.func37 (by kernel_rfl) rfl #[.agg #[.slice Ao34 t1004.length co34,.int .i64 t1007,.string t1008,.int .i64 t1009],.int .i64 1] rfl (by (try simp only [List.map_toArray,List.map_cons,List.map_nil]);first|done|rfl|(simp only [List.length_drop,List.length_take];rfl)) ?_;(with_reducible refine (laws_markSource.calls kj57 (fun k_=> some k_=(.slice Ao34 t1004.length co34:Value).ownBlock) (.slice Ao34 t1004.length co34) t1004 t1007 t1008 t1009 1 t1028 t1029 w _ ?side1 ?side2 A84.out).mono ?_);(case side1=> repeat (first|(with_reducible first|exact HB.out|apply bwA|apply bwN|apply bwD|refine bwS ?_ GE978.out|refine bwS ?_ GE996.out|refine bwS ?_ GE1003.out|refine bwS ?_ GE1014.out)|exact HB.out));(case side2=> exact Kd.R_tight rfl HO_1015000.out);rintro e w98 ⟨rfl,hy0,hb,hkp⟩;refine ⟨_,rfl,?_⟩;have n0_:=Aside0.mk (Kd.R_mono (ok':=fun k_=> some k_ ≠ (v1011:Value).ownBlock) (Kd.R_keptB ((Kd.R_apart' HO_9.out (Kd.R_typed HO_1015000.out) (by decide))) hkp (fun k_ hk_ hs_=> (hk_.2) hs_)) (fun k_ hk_=> hk_.1.1));have n1_:=Aside0.mk (Kd.R_mono (ok':=fun k_=> some k_ ≠ (v993:Value).ownBlock) (Kd.R_keptB ((Kd.R_apart' HO_13.out (Kd.R_typed HO_1015000.out) (by decide))) hkp (fun k_ hk_ hs_=> (hk_.2) hs_)) (fun k_ hk_=> hk_.1.1));have n2_:=Aside0.mk (Kd.R_mono (ok':=fun k_=> some k_ ≠ (.slice Ao28 t1025.length co28:Value).ownBlock ∧ some k_ ≠ (.slice Ao34 t1004.length co34:Value).ownBlock) (Kd.R_keptB (HO_997000.out) hkp (fun k_ hk_ hs_=> (hk_.2) hs_)) (fun k_ hk_=> ⟨hk_.1.1,hk_.1.2⟩));have n3_:=Aside0.mk (Kd.R_mono (ok':=fun k_=> some k_ ≠ (.slice Ao22 t986.length co22:Value).ownBlock ∧ some k_ ≠ (.slice Ao34 t1004.length co34:Value).ownBlock) (Kd.R_keptB (HO_1004000.out) hkp (fun k_ hk_ hs_=> (hk_.2) hs_)) (fun k_ hk_=> ⟨hk_.1.1,hk_.1.2⟩));have n4_:=Aside0.mk (Kd.R_reok rfl hy0 (fun k_ e_=> HO_1015000.out.1 k_ e_));have n5_:=Aside0.mk (blk_kept (by (with_reducible repeat (first|apply bN|apply bd|apply bA));exact BK978.out) hkp (fun hs_=> (fun e_=> (Kd.R_ne HO_1015000.out BK978.out (by decide)) e_) hs_));have n6_:=Aside0.mk (blk_kept (by (with_reducible repeat (first|apply bN|apply bd|apply bA));exact BK996.out) hkp (fun hs_=> (fun e_=> (Kd.R_ne HO_1015000.out BK996.out (by decide)) e_) hs_));have n7_:=Aside0.mk (blk_kept (by (with_reducible repeat (first|apply bN|apply bd|apply bA));exact BK1003.out) hkp (fun hs_=> (fun e_=> (Kd.R_ne HO_1015000.out BK1003.out (by decide)) e_) hs_));have n8_:=Aside0.mk (blk_kept (by (with_reducible repeat (first|apply bN|apply bd|apply bA));exact BK1014.out) hkp (fun hs_=> (fun e_=> (Kd.R_ne HO_1015000.out BK1014.out (by decide)) e_) hs_));have n9_:=Aside0.mk (hb);clear HO_9;clear HO_13;clear HO_997000;clear HO_1004000;clear HO_1015000;clear BK978;clear BK996;clear BK1003;clear BK1014;clear HB;have HO_9:=n0_;have HO_13:=n1_;have HO_997000:=n2_;have HO_1004000:=n3_;have HO_1015000:=n4_;have BK978:=n5_;have BK996:=n6_;have BK1003:=n7_;have BK1014:=n8_;have HB:=n9_;clear n0_ n1_ n2_ n3_ n4_ n5_ n6_ n7_ n8_ n9_;(try clear hb);(try clear hkp);(try clear hy0);obtain ⟨Ao99,co99,eo99⟩:=Kd.R_slice HO_13.out;subst eo99)|((with_reducible refine gate_callee (f:=78) rfl ?_);refine goesL_ (some 92) rfl rfl Try.func78 (by kernel_rfl) rfl #[.slice Ao99 t1010.length co99,.int .i64 t1028] rfl (by (try simp only [List.map_toArray,List.map_cons,List.map_nil]);first|done|rfl|(simp only [List.length_drop,List.length_take];rfl)) ?_;(with_reducible refine (laws_markIntS.calls kj57 (fun k_=> some k_=(.slice Ao99 t1010.length co99:Value).ownBlock) (.slice Ao99 t1010.length co99) t1010 t1028 t1030 t1031 w _ ?side1 ?side2 A85.out).mono ?_);(case side1=> repeat (first|(with_reducible first|exact HB.out|apply bwA|apply bwN|apply bwD|refine bwS ?_ GE978.out|refine bwS ?_ GE996.out|refine bwS ?_ GE1003.out|refine bwS ?_ GE1014.out)|exact HB.out));(case side2=> exact Kd.R_tight rfl HO_13.out);rintro e w100 ⟨rfl,hy0,hb,hkp⟩;refine ⟨_,rfl,?_⟩;have n0_:=Aside0.mk (Kd.R_mono (ok':=fun k_=> some k_ ≠ (.slice Ao99 t1010.length co99:Value).ownBlock) (Kd.R_keptB (HO_9.out) hkp (fun k_ hk_ hs_=> (hk_) hs_)) (fun k_ hk_=> hk_.1));have n1_:=Aside0.mk (Kd.R_reok rfl hy0 (fun k_ e_=> HO_13.out.1 k_ e_));have n2_:=Aside0.mk (Kd.R_mono (ok':=fun k_=> some k_ ≠ (.slice Ao28 t1025.length co28:Value).ownBlock ∧ some k_ ≠ (.slice Ao34 t1004.length co34:Value).ownBlock) (Kd.R_keptB ((Kd.R_apart' HO_997000.out (Kd.R_typed HO_13.out) (by decide))) hkp (fun k_ hk_ hs_=> (hk_.2) hs_)) (fun k_ hk_=> ⟨hk_.1.1.1,hk_.1.1.2⟩));have n3_:=Aside0.mk (Kd.R_mono (ok':=fun k_=> some k_ ≠ (.slice Ao22 t986.length co22:Value).ownBlock ∧ some k_ ≠ (.slice Ao34 t1004.length co34:Value).ownBlock) (Kd.R_keptB ((Kd.R_apart' HO_1004000.out (Kd.R_typed HO_13.out) (by decide))) hkp (fun k_ hk_ hs_=> (hk_.2) hs_)) (fun k_ hk_=> ⟨hk_.1.1.1,hk_.1.1.2⟩));have n4_:=Aside0.mk (Kd.R_mono (ok':=fun k_=> some k_ ≠ (.slice Ao22 t986.length co22:Value).ownBlock ∧ some k_ ≠ (.slice Ao28 t1025.length co28:Value).ownBlock) (Kd.R_keptB ((Kd.R_apart' HO_1015000.out (Kd.R_typed HO_13.out) (by decide))) hkp (fun k_ hk_ hs_=> (hk_.2) hs_)) (fun k_ hk_=> ⟨hk_.1.1.1,hk_.1.1.2⟩));have n5_:=Aside0.mk (blk_kept (by (with_reducible repeat (first|apply bN|apply bd|apply bA));exact BK978.out) hkp (fun hs_=> (fun e_=> (Kd.R_ne HO_13.out BK978.out (by decide)) e_) hs_));have n6_:=Aside0.mk (blk_kept (by (with_reducible repeat (first|apply bN|apply bd|apply bA));exact BK996.out) hkp (fun hs_=> (fun e_=> (Kd.R_ne HO_13.out BK996.out (by decide)) e_) hs_));have n7_:=Aside0.mk (blk_kept (by (with_reducible repeat (first|apply bN|apply bd|apply bA));exact BK1003.out) hkp (fun hs_=> (fun e_=> (Kd.R_ne HO_13.out BK1003.out (by decide)) e_) hs_));have n8_:=Aside0.mk (blk_kept (by (with_reducible repeat (first|apply bN|apply bd|apply bA));exact BK1014.out) hkp (fun hs_=> (fun e_=> (Kd.R_ne HO_13.out BK1014.out (by decide)) e_) hs_));have n9_:=Aside0.mk (hb);clear HO_9;clear HO_13;clear HO_997000;clear HO_1004000;clear HO_1015000;clear BK978;clear BK996;clear BK1003;clear BK1014;clear HB;have HO_9:=n0_;have HO_13:=n1_;have HO_997000:=n2_;have HO_1004000:=n3_;have HO_1015000:=n4_;have BK978:=n5_;have BK996:=n6_;have BK1003:=n7_;have BK1014:=n8_;have HB:=n9_;clear n0_ n1_ n2_ n3_ n4_ n5_ n6_ n7_ n8_ n9_;(try clear hb);(try clear hkp);(try clear hy0);have hcz101_0:w100.cell? ⟨gb1014,0,none⟩=some (.slice Ao34 t1004.length co34):=(blk_cell BK1014.out 0).trans rfl;have hcz101_1:w100.cell? ⟨gb1014,1,none⟩=some (.int .i64 t1007):=(blk_cell BK1014.out 1).trans rfl;have hcz101_2:w100.cell? ⟨gb1014,2,none⟩=some (.string t1008):=(blk_cell BK1014.out 2).trans rfl;have hcz101_3:w100.cell? ⟨gb1014,3,none⟩=some (.int .i64 t1009):=(blk_cell BK1014.out 3).trans rfl;have hfz101_0:=blk_frozen BK1014.out 0;have hfz101_1:=blk_frozen BK1014.out 1;have hfz101_2:=blk_frozen BK1014.out 2;have hfz101_3:=blk_frozen BK1014.out 3)|((with_reducible refine gate_callee (f:=38) rfl ?_);refine goesL_ (some 95) rfl rfl Try.func38 (by kernel_rfl) rfl #[.agg #[.slice Ao34 t1029.length co34,.int .i64 t1007,.string t1008,.int .i64 t1009],.int .i64 1] rfl (by (try simp only [List.map_toArray,List.map_cons,List.map_nil]);first|done|(rw [show t1029.length=t1004.length from (Kd.R_reads' HO_1015000.out).1.symm] <;> rfl)|rfl|(simp only [List.length_drop,List.length_take];rfl)) ?_;(with_reducible refine (laws_heldSource.calls kj57 _ _ t1029 t1007 t1008 t1009 1 t1032 _ ?side1 ?side2 A86.out).mono ?_);(case side1=> repeat (first|exact (Kd.R_reads' HO_1015000.out).2.2|(with_reducible refine Kd.C_alloc ?_ _)|(with_reducible refine Kd.C_drewN ?_ _)|(with_reducible refine Kd.C_drew ?_)));(case side2=> rw [show t1029.length=t1004.length from (Kd.R_reads' HO_1015000.out).1.symm];exact (Kd.R_reads' HO_1015000.out).2.1);rintro e w102 ⟨rfl,hb⟩;refine ⟨_,rfl,?_⟩;have n0_:=Aside0.mk (Kd.R_below (by (with_reducible repeat (first|apply Kd.R_alloc|apply Kd.R_drewN|apply Kd.R_drew));exact HO_9.out) hb);have n1_:=Aside0.mk (Kd.R_below (by (with_reducible repeat (first|apply Kd.R_alloc|apply Kd.R_drewN|apply Kd.R_drew));exact HO_13.out) hb);have n2_:=Aside0.mk (Kd.R_below (by (with_reducible repeat (first|apply Kd.R_alloc|apply Kd.R_drewN|apply Kd.R_drew));exact HO_997000.out) hb);have n3_:=Aside0.mk (Kd.R_below (by (with_reducible repeat (first|apply Kd.R_alloc|apply Kd.R_drewN|apply Kd.R_drew));exact HO_1004000.out) hb);have n4_:=Aside0.mk (Kd.R_below (by (with_reducible repeat (first|apply Kd.R_alloc|apply Kd.R_drewN|apply Kd.R_drew));exact HO_1015000.out) hb);have n5_:=Aside0.mk (blk_below (g:=gb978) (o:= .cells #[.slice A0_0 l0_0.length c0_0,.int .i64 a0_1,.string a0_2,.int .i64 a0_3] 61 (0,0)) (by (with_reducible repeat (first|apply bN|apply bd|apply bA));exact BK978.out) hb);have n6_:=Aside0.mk (blk_below (g:=gb996) (o:= .cells #[.slice Ao22 t986.length co22,.int .i64 t989,.string t990,.int .i64 t991] 36 (0,0)) (by (with_reducible repeat (first|apply bN|apply bd|apply bA));exact BK996.out) hb);have n7_:=Aside0.mk (blk_below (g:=gb1003) (o:= .cells #[.slice Ao28 t1025.length co28,.int .i64 t1000,.string t1001,.int .i64 t1002] 36 (0,0)) (by (with_reducible repeat (first|apply bN|apply bd|apply bA));exact BK1003.out) hb);have n8_:=Aside0.mk (blk_below (g:=gb1014) (o:= .cells #[.slice Ao34 t1004.length co34,.int .i64 t1007,.string t1008,.int .i64 t1009] 36 (0,0)) (by (with_reducible repeat (first|apply bN|apply bd|apply bA));exact BK1014.out) hb);have n9_:=Aside0.mk (below_step (by repeat (first|(with_reducible first|exact HB.out|apply bwA|apply bwN|apply bwD|refine bwS ?_ GE978.out|refine bwS ?_ GE996.out|refine bwS ?_ GE1003.out|refine bwS ?_ GE1014.out)|exact HB.out)) hb);clear HO_9;clear HO_13;clear HO_997000;clear HO_1004000;clear HO_1015000;clear BK978;clear BK996;clear BK1003;clear BK1014;clear HB;have HO_9:=n0_;have HO_13:=n1_;have HO_997000:=n2_;have HO_1004000:=n3_;have HO_1015000:=n4_;have BK978:=n5_;have BK996:=n6_;have BK1003:=n7_;have BK1014:=n8_;have HB:=n9_;clear n0_ n1_ n2_ n3_ n4_ n5_ n6_ n7_ n8_ n9_;(try clear hb);(try clear hb2);(try clear hk);(try clear hi))|((with_reducible refine gate_callee (f:=79) rfl ?_);refine goesL_ (some 100) rfl rfl Try.func79 (by kernel_rfl) rfl #[.slice Ao99 t1031.length co99,.int .i64 t1032] rfl (by (try simp only [List.map_toArray,List.map_cons,List.map_nil]);first|done|(rw [show t1031.length=t1010.length from (Kd.R_reads' HO_13.out).1.symm] <;> rfl)|rfl|(simp only [List.length_drop,List.length_take];rfl)) ?_;(with_reducible refine (laws_heldIntS.calls kj57 _ _ t1031 t1032 t1033 _ ?side1 ?side2 A88.out).mono ?_);(case side1=> repeat (first|exact (Kd.R_reads' HO_13.out).2.2|(with_reducible refine Kd.C_alloc ?_ _)|(with_reducible refine Kd.C_drewN ?_ _)|(with_reducible refine Kd.C_drew ?_)));(case side2=> rw [show t1031.length=t1010.length from (Kd.R_reads' HO_13.out).1.symm];exact (Kd.R_reads' HO_13.out).2.1);rintro e w' ⟨rfl,⟨nd,rfl⟩⟩;refine ⟨_,rfl,?_⟩;(try (rw [drewN_self w102];generalize hq_:World.drewN w102 _=w102;have n0_:Aside0 (Kd.R k79 79 w102 w.heap.size (fun k_=> some k_ ≠ (.slice Ao22 t986.length co22:Value).ownBlock ∧ some k_ ≠ (.slice Ao34 t1004.length co34:Value).ownBlock) (.slice Ao28 t1025.length co28) t1025):=⟨by rw [← hq_];exact (by (with_reducible repeat (first|apply Kd.R_alloc|apply Kd.R_drewN|apply Kd.R_drew));exact HO_1004000.out)⟩;have n1_:Aside0 (Kd.R k79 79 w102 w.heap.size (fun k_=> some k_ ≠ (.slice Ao22 t986.length co22:Value).ownBlock ∧ some k_ ≠ (.slice Ao28 t1025.length co28:Value).ownBlock) (.slice Ao34 t1004.length co34) t1029):=⟨by rw [← hq_];exact (by (with_reducible repeat (first|apply Kd.R_alloc|apply Kd.R_drewN|apply Kd.R_drew));exact HO_1015000.out)⟩;have n2_:Aside0 (Kd.R (Kd.int .i64) 3 w102 w.heap.size (fun k_=> some k_ ≠ (v993:Value).ownBlock) (.slice Ao99 t1010.length co99) t1031):=⟨by rw [← hq_];exact (by (with_reducible repeat (first|apply Kd.R_alloc|apply Kd.R_drewN|apply Kd.R_drew));exact HO_13.out)⟩;have n3_:Aside0 (Kd.R (Kd.int .i64) 3 w102 w.heap.size (fun k_=> some k_ ≠ (.slice Ao99 t1010.length co99:Value).ownBlock) v993 t992):=⟨by rw [← hq_];exact (by (with_reducible repeat (first|apply Kd.R_alloc|apply Kd.R_drewN|apply Kd.R_drew));exact HO_9.out)⟩;have n4_:Aside0 (Kd.R k79 79 w102 w.heap.size (fun k_=> some k_ ≠ (.slice Ao28 t1025.length co28:Value).ownBlock ∧ some k_ ≠ (.slice Ao34 t1004.length co34:Value).ownBlock) (.slice Ao22 t986.length co22) t986):=⟨by rw [← hq_];exact (by (with_reducible repeat (first|apply Kd.R_alloc|apply Kd.R_drewN|apply Kd.R_drew));exact HO_997000.out)⟩;have n5_:Aside0 (w102.heap[gb1003]?=some (.cells #[.slice Ao28 t1025.length co28,.int .i64 t1000,.string t1001,.int .i64 t1002] 36 (0,0))):=⟨by rw [← hq_];exact (by (with_reducible repeat (first|apply bN|apply bd|apply bA));exact BK1003.out)⟩;have n6_:Aside0 (w102.heap[gb1014]?=some (.cells #[.slice Ao34 t1004.length co34,.int .i64 t1007,.string t1008,.int .i64 t1009] 36 (0,0))):=⟨by rw [← hq_];exact (by (with_reducible repeat (first|apply bN|apply bd|apply bA));exact BK1014.out)⟩;have n7_:Aside0 (w102.heap[gb978]?=some (.cells #[.slice A0_0 l0_0.length c0_0,.int .i64 a0_1,.string a0_2,.int .i64 a0_3] 61 (0,0))):=⟨by rw [← hq_];exact (by (with_reducible repeat (first|apply bN|apply bd|apply bA));exact BK978.out)⟩;have n8_:Aside0 (w102.heap[gb996]?=some (.cells #[.slice Ao22 t986.length co22,.int .i64 t989,.string t990,.int .i64 t991] 36 (0,0))):=⟨by rw [← hq_];exact (by (with_reducible repeat (first|apply bN|apply bd|apply bA));exact BK996.out)⟩;have n9_:Aside0 (Below w.heap.size w w102):=⟨by rw [← hq_];exact (by repeat (first|(with_reducible first|exact HB.out|apply bwA|apply bwN|apply bwD|refine bwS ?_ GE978.out|refine bwS ?_ GE996.out|refine bwS ?_ GE1003.out|refine bwS ?_ GE1014.out)|exact HB.out))⟩;clear HO_1004000 HO_1015000 HO_13 HO_9 HO_997000 BK1003 BK1014 BK978 BK996 HB hq_;have HO_1004000:=n0_;have HO_1015000:=n1_;have HO_13:=n2_;have HO_9:=n3_;have HO_997000:=n4_;have BK1003:=n5_;have BK1014:=n6_;have BK978:=n7_;have BK996:=n8_;have HB:=n9_;clear n0_ n1_ n2_ n3_ n4_ n5_ n6_ n7_ n8_ n9_));have hnb103:=NB978_996.out;have hnc103:=NB996_978.out;have hnb104:=NB978_1003.out;have hnc104:=NB1003_978.out;have hcz105_0:w102.cell? ⟨gb978,0,none⟩=some (.slice A0_0 l0_0.length c0_0):=(blk_cell BK978.out 0).trans rfl;have hcz105_1:w102.cell? ⟨gb978,1,none⟩=some (.int .i64 a0_1):=(blk_cell BK978.out 1).trans rfl;have hcz105_2:w102.cell? ⟨gb978,2,none⟩=some (.string a0_2):=(blk_cell BK978.out 2).trans rfl;have hcz105_3:w102.cell? ⟨gb978,3,none⟩=some (.int .i64 a0_3):=(blk_cell BK978.out 3).trans rfl;have hfz105_0:=blk_frozen BK978.out 0;have hfz105_1:=blk_frozen BK978.out 1;have hfz105_2:=blk_frozen BK978.out 2;have hfz105_3:=blk_frozen BK978.out 3)|((with_reducible refine gate_callee (f:=55) rfl ?_);refine goesL_ (some 108) rfl rfl Try.func55 (by kernel_rfl) rfl #[.agg #[.slice A0_0 l0_0.length c0_0,.int .i64 a0_1,.string a0_2,.int .i64 a0_3]] rfl (by (try simp only [List.map_toArray,List.map_cons,List.map_nil]);first|done|rfl|(simp only [List.length_drop,List.length_take];rfl)) ?_;(with_reducible refine (laws_toSource.calls kj57 _ _ l0_0 a0_1 a0_2 a0_3 t1034 t1037 t1038 t1039 _ ?side1 ?side2 A91.out).mono ?_);(case side1=> repeat (first|exact (Kd.C_below HR0_0.out HB.out)|(with_reducible refine Kd.C_alloc ?_ _)|(with_reducible refine Kd.C_drewN ?_ _)|(with_reducible refine Kd.C_drew ?_)));(case side2=> exact HC0_0.out);rintro e w106 ⟨v1035,rfl,ho0,hb⟩;refine ⟨_,rfl,?_⟩;have n0_:=Aside0.mk (Kd.R_below (by (with_reducible repeat (first|apply Kd.R_alloc|apply Kd.R_drewN|apply Kd.R_drew));exact HO_9.out) hb);have n1_:=Aside0.mk (Kd.R_below (by (with_reducible repeat (first|apply Kd.R_alloc|apply Kd.R_drewN|apply Kd.R_drew));exact HO_13.out) hb);have n2_:=Aside0.mk (Kd.R_elder' (by (with_reducible repeat (first|apply Kd.R_alloc|apply Kd.R_drewN|apply Kd.R_drew));exact HO_997000.out) (Kd.R_base ho0) hb);have n3_:=Aside0.mk (Kd.R_elder' (by (with_reducible repeat (first|apply Kd.R_alloc|apply Kd.R_drewN|apply Kd.R_drew));exact HO_1004000.out) (Kd.R_base ho0) hb);have n4_:=Aside0.mk (Kd.R_elder' (by (with_reducible repeat (first|apply Kd.R_alloc|apply Kd.R_drewN|apply Kd.R_drew));exact HO_1015000.out) (Kd.R_base ho0) hb);have n5_:=Aside0.mk (Kd.R_lower (Kd.R_new' (Kd.R_new' (Kd.R_new' ho0 (Kd.R_lt (by (with_reducible repeat (first|apply Kd.R_alloc|apply Kd.R_drewN|apply Kd.R_drew));exact HO_997000.out))) (Kd.R_lt (by (with_reducible repeat (first|apply Kd.R_alloc|apply Kd.R_drewN|apply Kd.R_drew));exact HO_1004000.out))) (Kd.R_lt (by (with_reducible repeat (first|apply Kd.R_alloc|apply Kd.R_drewN|apply Kd.R_drew));exact HO_1015000.out))) (below_size (by repeat (first|(with_reducible first|exact HB.out|apply bwA|apply bwN|apply bwD|refine bwS ?_ GE978.out|refine bwS ?_ GE996.out|refine bwS ?_ GE1003.out|refine bwS ?_ GE1014.out)|exact HB.out))));have n6_:=Aside0.mk (blk_below (g:=gb978) (o:= .cells #[.slice A0_0 l0_0.length c0_0,.int .i64 a0_1,.string a0_2,.int .i64 a0_3] 61 (0,0)) (by (with_reducible repeat (first|apply bN|apply bd|apply bA));exact BK978.out) hb);have n7_:=Aside0.mk (blk_below (g:=gb996) (o:= .cells #[.slice Ao22 t986.length co22,.int .i64 t989,.string t990,.int .i64 t991] 36 (0,0)) (by (with_reducible repeat (first|apply bN|apply bd|apply bA));exact BK996.out) hb);have n8_:=Aside0.mk (blk_below (g:=gb1003) (o:= .cells #[.slice Ao28 t1025.length co28,.int .i64 t1000,.string t1001,.int .i64 t1002] 36 (0,0)) (by (with_reducible repeat (first|apply bN|apply bd|apply bA));exact BK1003.out) hb);have n9_:=Aside0.mk (blk_below (g:=gb1014) (o:= .cells #[.slice Ao34 t1004.length co34,.int .i64 t1007,.string t1008,.int .i64 t1009] 36 (0,0)) (by (with_reducible repeat (first|apply bN|apply bd|apply bA));exact BK1014.out) hb);have n10_:=Aside0.mk (below_step (by repeat (first|(with_reducible first|exact HB.out|apply bwA|apply bwN|apply bwD|refine bwS ?_ GE978.out|refine bwS ?_ GE996.out|refine bwS ?_ GE1003.out|refine bwS ?_ GE1014.out)|exact HB.out)) hb);clear HO_9;clear HO_13;clear HO_997000;clear HO_1004000;clear HO_1015000;clear BK978;clear BK996;clear BK1003;clear BK1014;clear HB;have HO_9:=n0_;have HO_13:=n1_;have HO_997000:=n2_;have HO_1004000:=n3_;have HO_1015000:=n4_;have HO1036:=n5_;have BK978:=n6_;have BK996:=n7_;have BK1003:=n8_;have BK1014:=n9_;have HB:=n10_;clear n0_ n1_ n2_ n3_ n4_ n5_ n6_ n7_ n8_ n9_ n10_;(try clear hb);(try clear hb2);(try clear hk);(try clear hi);(try clear ho0);obtain ⟨Ao107,co107,eo107⟩:=Kd.R_slice HO1036.out;subst eo107)|((with_reducible refine gate_callee (f:=76) rfl ?_);refine goesL_ (some 111) rfl rfl Try.func76 (by kernel_rfl) rfl #[.agg #[.slice Ao107 t1034.length co107,.int .i64 t1037,.string t1038,.int .i64 t1039],.int .i64 a1,.int .i64 a2] rfl (by (try simp only [List.map_toArray,List.map_cons,List.map_nil]);first|done|rfl|(simp only [List.length_drop,List.length_take];rfl)) ?_;(with_reducible refine (impl_TakePlaces.calls kj57 _ _ t1034 t1037 t1038 t1039 a1 a2 t1040 t1043 t1044 t1045 t1046 t1049 _ ?side1 ?side2 A92.out).mono ?_);(case side1=> repeat (first|exact (Kd.R_reads' HO1036.out).2.2|(with_reducible refine Kd.C_alloc ?_ _)|(with_reducible refine Kd.C_drewN ?_ _)|(with_reducible refine Kd.C_drew ?_)));(case side2=> exact (Kd.R_reads' HO1036.out).2.1);rintro e w108 ⟨v1041,v1047,rfl,ho0,ho1,hb⟩;refine ⟨_,rfl,?_⟩;have n0_:=Aside0.mk (Kd.R_elder' (by (with_reducible repeat (first|apply Kd.R_alloc|apply Kd.R_drewN|apply Kd.R_drew));exact HO_9.out) (Kd.R_base ho1) hb);have n1_:=Aside0.mk (Kd.R_elder' (by (with_reducible repeat (first|apply Kd.R_alloc|apply Kd.R_drewN|apply Kd.R_drew));exact HO_13.out) (Kd.R_base ho1) hb);have n2_:=Aside0.mk (Kd.R_elder' (by (with_reducible repeat (first|apply Kd.R_alloc|apply Kd.R_drewN|apply Kd.R_drew));exact HO_997000.out) (Kd.R_base ho0) hb);have n3_:=Aside0.mk (Kd.R_elder' (by (with_reducible repeat (first|apply Kd.R_alloc|apply Kd.R_drewN|apply Kd.R_drew));exact HO_1004000.out) (Kd.R_base ho0) hb);have n4_:=Aside0.mk (Kd.R_elder' (by (with_reducible repeat (first|apply Kd.R_alloc|apply Kd.R_drewN|apply Kd.R_drew));exact HO_1015000.out) (Kd.R_base ho0) hb);have n5_:=Aside0.mk (Kd.R_elder' (by (with_reducible repeat (first|apply Kd.R_alloc|apply Kd.R_drewN|apply Kd.R_drew));exact HO1036.out) (Kd.R_base ho0) hb);have n6_:=Aside0.mk (Kd.R_lower (Kd.R_new' (Kd.R_new' (Kd.R_new' (Kd.R_new' ho0 (Kd.R_lt (by (with_reducible repeat (first|apply Kd.R_alloc|apply Kd.R_drewN|apply Kd.R_drew));exact HO_997000.out))) (Kd.R_lt (by (with_reducible repeat (first|apply Kd.R_alloc|apply Kd.R_drewN|apply Kd.R_drew));exact HO_1004000.out))) (Kd.R_lt (by (with_reducible repeat (first|apply Kd.R_alloc|apply Kd.R_drewN|apply Kd.R_drew));exact HO_1015000.out))) (Kd.R_lt (by (with_reducible repeat (first|apply Kd.R_alloc|apply Kd.R_drewN|apply Kd.R_drew));exact HO1036.out))) (below_size (by repeat (first|(with_reducible first|exact HB.out|apply bwA|apply bwN|apply bwD|refine bwS ?_ GE978.out|refine bwS ?_ GE996.out|refine bwS ?_ GE1003.out|refine bwS ?_ GE1014.out)|exact HB.out))));have n7_:=Aside0.mk (Kd.R_lower (Kd.R_new' (Kd.R_new' ho1 (Kd.R_lt (by (with_reducible repeat (first|apply Kd.R_alloc|apply Kd.R_drewN|apply Kd.R_drew));exact HO_9.out))) (Kd.R_lt (by (with_reducible repeat (first|apply Kd.R_alloc|apply Kd.R_drewN|apply Kd.R_drew));exact HO_13.out))) (below_size (by repeat (first|(with_reducible first|exact HB.out|apply bwA|apply bwN|apply bwD|refine bwS ?_ GE978.out|refine bwS ?_ GE996.out|refine bwS ?_ GE1003.out|refine bwS ?_ GE1014.out)|exact HB.out))));have n8_:=Aside0.mk (blk_below (g:=gb978) (o:= .cells #[.slice A0_0 l0_0.length c0_0,.int .i64 a0_1,.string a0_2,.int .i64 a0_3] 61 (0,0)) (by (with_reducible repeat (first|apply bN|apply bd|apply bA));exact BK978.out) hb);have n9_:=Aside0.mk (blk_below (g:=gb996) (o:= .cells #[.slice Ao22 t986.length co22,.int .i64 t989,.string t990,.int .i64 t991] 36 (0,0)) (by (with_reducible repeat (first|apply bN|apply bd|apply bA));exact BK996.out) hb);have n10_:=Aside0.mk (blk_below (g:=gb1003) (o:= .cells #[.slice Ao28 t1025.length co28,.int .i64 t1000,.string t1001,.int .i64 t1002] 36 (0,0)) (by (with_reducible repeat (first|apply bN|apply bd|apply bA));exact BK1003.out) hb);have n11_:=Aside0.mk (blk_below (g:=gb1014) (o:= .cells #[.slice Ao34 t1004.length co34,.int .i64 t1007,.string t1008,.int .i64 t1009] 36 (0,0)) (by (with_reducible repeat (first|apply bN|apply bd|apply bA));exact BK1014.out) hb);have n12_:=Aside0.mk (below_step (by repeat (first|(with_reducible first|exact HB.out|apply bwA|apply bwN|apply bwD|refine bwS ?_ GE978.out|refine bwS ?_ GE996.out|refine bwS ?_ GE1003.out|refine bwS ?_ GE1014.out)|exact HB.out)) hb);clear HO_9;clear HO_13;clear HO_997000;clear HO_1004000;clear HO_1015000;clear HO1036;clear BK978;clear BK996;clear BK1003;clear BK1014;clear HB;have HO_9:=n0_;have HO_13:=n1_;have HO_997000:=n2_;have HO_1004000:=n3_;have HO_1015000:=n4_;have HO1036:=n5_;have HO1042:=n6_;have HO1048:=n7_;have BK978:=n8_;have BK996:=n9_;have BK1003:=n10_;have BK1014:=n11_;have HB:=n12_;clear n0_ n1_ n2_ n3_ n4_ n5_ n6_ n7_ n8_ n9_ n10_ n11_ n12_;(try clear hb);(try clear hb2);(try clear hk);(try clear hi);(try clear ho0);(try clear ho1))|((with_reducible refine gate_dst (N:=18) rfl ?_);refine box_event ?hg (N:=18) ?hd (cs:= #[.slice none 0 0,.int .i64 0,.string (⟨#[]⟩:ByteArray),.int .i64 0]) (t:=36) ?hr ?_;(case hd=> rfl);(case hg=> rfl);(case hr=> first|(go_simp;done)|(go_simp;rfl));intro gb1050 hg w109 hbox hb;have n0_:=Aside0.mk (Kd.R_below (by (with_reducible repeat (first|apply Kd.R_alloc|apply Kd.R_drewN|apply Kd.R_drew));exact HO_9.out) hb);have n1_:=Aside0.mk (Kd.R_below (by (with_reducible repeat (first|apply Kd.R_alloc|apply Kd.R_drewN|apply Kd.R_drew));exact HO_13.out) hb);have n2_:=Aside0.mk (Kd.R_below (by (with_reducible repeat (first|apply Kd.R_alloc|apply Kd.R_drewN|apply Kd.R_drew));exact HO_997000.out) hb);have n3_:=Aside0.mk (Kd.R_below (by (with_reducible repeat (first|apply Kd.R_alloc|apply Kd.R_drewN|apply Kd.R_drew));exact HO_1004000.out) hb);have n4_:=Aside0.mk (Kd.R_below (by (with_reducible repeat (first|apply Kd.R_alloc|apply Kd.R_drewN|apply Kd.R_drew));exact HO_1015000.out) hb);have n5_:=Aside0.mk (Kd.R_below (by (with_reducible repeat (first|apply Kd.R_alloc|apply Kd.R_drewN|apply Kd.R_drew));exact HO1036.out) hb);have n6_:=Aside0.mk (Kd.R_below (by (with_reducible repeat (first|apply Kd.R_alloc|apply Kd.R_drewN|apply Kd.R_drew));exact HO1042.out) hb);have n7_:=Aside0.mk (Kd.R_below (by (with_reducible repeat (first|apply Kd.R_alloc|apply Kd.R_drewN|apply Kd.R_drew));exact HO1048.out) hb);have n8_:=Aside0.mk (blk_below (g:=gb978) (o:= .cells #[.slice A0_0 l0_0.length c0_0,.int .i64 a0_1,.string a0_2,.int .i64 a0_3] 61 (0,0)) (by (with_reducible repeat (first|apply bN|apply bd|apply bA));exact BK978.out) hb);have n9_:=Aside0.mk (blk_below (g:=gb996) (o:= .cells #[.slice Ao22 t986.length co22,.int .i64 t989,.string t990,.int .i64 t991] 36 (0,0)) (by (with_reducible repeat (first|apply bN|apply bd|apply bA));exact BK996.out) hb);have n10_:=Aside0.mk (blk_below (g:=gb1003) (o:= .cells #[.slice Ao28 t1025.length co28,.int .i64 t1000,.string t1001,.int .i64 t1002] 36 (0,0)) (by (with_reducible repeat (first|apply bN|apply bd|apply bA));exact BK1003.out) hb);have n11_:=Aside0.mk (blk_below (g:=gb1014) (o:= .cells #[.slice Ao34 t1004.length co34,.int .i64 t1007,.string t1008,.int .i64 t1009] 36 (0,0)) (by (with_reducible repeat (first|apply bN|apply bd|apply bA));exact BK1014.out) hb);have n12_:=Aside0.mk (below_step (by repeat (first|(with_reducible first|exact HB.out|apply bwA|apply bwN|apply bwD|refine bwS ?_ GE978.out|refine bwS ?_ GE996.out|refine bwS ?_ GE1003.out|refine bwS ?_ GE1014.out)|exact HB.out)) hb);have n13_:=Aside0.mk (hbox);have n14_:=Aside0.mk ((by rw [hg];exact (below_size (by repeat (first|(with_reducible first|exact HB.out|apply bwA|apply bwN|apply bwD|refine bwS ?_ GE978.out|refine bwS ?_ GE996.out|refine bwS ?_ GE1003.out|refine bwS ?_ GE1014.out)|exact HB.out))):w.heap.size ≤ gb1050));have n15_:=Aside0.mk ((by rw [hg];exact (below_size (by repeat (first|(with_reducible first|exact HB.out|apply bwA|apply bwN|apply bwD|refine bwS ?_ GE978.out|refine bwS ?_ GE996.out|refine bwS ?_ GE1003.out|refine bwS ?_ GE1014.out)|exact HB.out))):w.heap.size ≤ gb1050));have n16_:=Aside0.mk ((by rw [hg];exact Nat.ne_of_lt (blk_lt (g:=gb978) (o:= .cells #[.slice A0_0 l0_0.length c0_0,.int .i64 a0_1,.string a0_2,.int .i64 a0_3] 61 (0,0)) (by (with_reducible repeat (first|apply bN|apply bd|apply bA));exact BK978.out)):gb978 ≠ gb1050));have n17_:=Aside0.mk ((by rw [hg];exact Nat.ne_of_gt (blk_lt (g:=gb978) (o:= .cells #[.slice A0_0 l0_0.length c0_0,.int .i64 a0_1,.string a0_2,.int .i64 a0_3] 61 (0,0)) (by (with_reducible repeat (first|apply bN|apply bd|apply bA));exact BK978.out)):gb1050 ≠ gb978));have n18_:=Aside0.mk ((by rw [hg];exact Nat.ne_of_lt (blk_lt (g:=gb996) (o:= .cells #[.slice Ao22 t986.length co22,.int .i64 t989,.string t990,.int .i64 t991] 36 (0,0)) (by (with_reducible repeat (first|apply bN|apply bd|apply bA));exact BK996.out)):gb996 ≠ gb1050));have n19_:=Aside0.mk ((by rw [hg];exact Nat.ne_of_gt (blk_lt (g:=gb996) (o:= .cells #[.slice Ao22 t986.length co22,.int .i64 t989,.string t990,.int .i64 t991] 36 (0,0)) (by (with_reducible repeat (first|apply bN|apply bd|apply bA));exact BK996.out)):gb1050 ≠ gb996));have n20_:=Aside0.mk ((by rw [hg];exact Nat.ne_of_lt (blk_lt (g:=gb1003) (o:= .cells #[.slice Ao28 t1025.length co28,.int .i64 t1000,.string t1001,.int .i64 t1002] 36 (0,0)) (by (with_reducible repeat (first|apply bN|apply bd|apply bA));exact BK1003.out)):gb1003 ≠ gb1050));have n21_:=Aside0.mk ((by rw [hg];exact Nat.ne_of_gt (blk_lt (g:=gb1003) (o:= .cells #[.slice Ao28 t1025.length co28,.int .i64 t1000,.string t1001,.int .i64 t1002] 36 (0,0)) (by (with_reducible repeat (first|apply bN|apply bd|apply bA));exact BK1003.out)):gb1050 ≠ gb1003));have n22_:=Aside0.mk ((by rw [hg];exact Nat.ne_of_lt (blk_lt (g:=gb1014) (o:= .cells #[.slice Ao34 t1004.length co34,.int .i64 t1007,.string t1008,.int .i64 t1009] 36 (0,0)) (by (with_reducible repeat (first|apply bN|apply bd|apply bA));exact BK1014.out)):gb1014 ≠ gb1050));have n23_:=Aside0.mk ((by rw [hg];exact Nat.ne_of_gt (blk_lt (g:=gb1014) (o:= .cells #[.slice Ao34 t1004.length co34,.int .i64 t1007,.string t1008,.int .i64 t1009] 36 (0,0)) (by (with_reducible repeat (first|apply bN|apply bd|apply bA));exact BK1014.out)):gb1050 ≠ gb1014));clear HO_9;clear HO_13;clear HO_997000;clear HO_1004000;clear HO_1015000;clear HO1036;clear HO1042;clear HO1048;clear BK978;clear BK996;clear BK1003;clear BK1014;clear HB;have HO_9:=n0_;have HO_13:=n1_;have HO_997000:=n2_;have HO_1004000:=n3_;have HO_1015000:=n4_;have HO1036:=n5_;have HO1042:=n6_;have HO1048:=n7_;have BK978:=n8_;have BK996:=n9_;have BK1003:=n10_;have BK1014:=n11_;have HB:=n12_;have BK1050:=n13_;have GW1050:=n14_;have GE1050:=n15_;have NB978_1050:=n16_;have NB1050_978:=n17_;have NB996_1050:=n18_;have NB1050_996:=n19_;have NB1003_1050:=n20_;have NB1050_1003:=n21_;have NB1014_1050:=n22_;have NB1050_1014:=n23_;clear n0_ n1_ n2_ n3_ n4_ n5_ n6_ n7_ n8_ n9_ n10_ n11_ n12_ n13_ n14_ n15_ n16_ n17_ n18_ n19_ n20_ n21_ n22_ n23_;clear hb hbox hg;obtain ⟨Ao110,co110,eo110⟩:=Kd.R_slice HO1042.out;subst eo110;have hnb111:=NB1050_978.out;have hnc111:=NB978_1050.out;have hnb112:=NB1050_996.out;have hnc112:=NB996_1050.out;have hnb113:=NB1050_1003.out;have hnc113:=NB1003_1050.out;have hnb114:=NB1050_1014.out;have hnc114:=NB1014_1050.out;have hcz115_0:w109.cell? ⟨gb1050,0,none⟩=some (.slice none 0 0):=(blk_cell BK1050.out 0).trans rfl;have hcz115_1:w109.cell? ⟨gb1050,1,none⟩=some (.int .i64 0):=(blk_cell BK1050.out 1).trans rfl;have hcz115_2:w109.cell? ⟨gb1050,2,none⟩=some (.string (⟨#[]⟩:ByteArray)):=(blk_cell BK1050.out 2).trans rfl;have hcz115_3:w109.cell? ⟨gb1050,3,none⟩=some (.int .i64 0):=(blk_cell BK1050.out 3).trans rfl;have hfz115_0:=blk_frozen BK1050.out 0;have hfz115_1:=blk_frozen BK1050.out 1;have hfz115_2:=blk_frozen BK1050.out 2;have hfz115_3:=blk_frozen BK1050.out 3))
                        (try simp only [Act.put,List.setIfInBounds_toArray,List.set_cons_zero,List.set_cons_succ])
                        go_cut [129] (fun v129 wc=> ∃ (kq:Nat) (x129_92:Bool),v129= .bool x129_92 ∧ Aside0 (laws_FnExactTakePlaces.j2 kq t1031 t1030 x129_92 t1029 t1007 t1008 t1009=some r) ∧ Aside0 (kq ≤ kj57) ∧ Aside0 (Kd.R (Kd.int .i64) 3 wc w.heap.size (fun _=> True) (.slice Ao99 t1010.length co99) t1031) ∧ Aside0 (Kd.R k79 79 wc w.heap.size (fun k_=> some k_ ≠ ((.slice Ao28 t1025.length co28):Value).ownBlock ∧ some k_ ≠ ((.slice Ao34 t1004.length co34):Value).ownBlock ∧ some k_ ≠ ((.slice Ao110 t1040.length co110):Value).ownBlock) (.slice Ao22 t986.length co22) t986) ∧ Aside0 (Kd.R k79 79 wc w.heap.size (fun k_=> some k_ ≠ ((.slice Ao22 t986.length co22):Value).ownBlock ∧ some k_ ≠ ((.slice Ao34 t1004.length co34):Value).ownBlock ∧ some k_ ≠ ((.slice Ao110 t1040.length co110):Value).ownBlock) (.slice Ao28 t1025.length co28) t1025) ∧ Aside0 (Kd.R k79 79 wc w.heap.size (fun k_=> some k_ ≠ ((.slice Ao22 t986.length co22):Value).ownBlock ∧ some k_ ≠ ((.slice Ao28 t1025.length co28):Value).ownBlock ∧ some k_ ≠ ((.slice Ao110 t1040.length co110):Value).ownBlock) (.slice Ao34 t1004.length co34) t1029) ∧ Aside0 (Kd.R k79 79 wc w.heap.size (fun k_=> some k_ ≠ ((.slice Ao22 t986.length co22):Value).ownBlock ∧ some k_ ≠ ((.slice Ao28 t1025.length co28):Value).ownBlock ∧ some k_ ≠ ((.slice Ao34 t1004.length co34):Value).ownBlock) (.slice Ao110 t1040.length co110) t1040) ∧ Aside0 (wc.heap[gb978]?=some (.cells #[(.slice A0_0 l0_0.length c0_0),.int .i64 a0_1,.string a0_2,.int .i64 a0_3] 61 (0,0))) ∧ Aside0 (wc.heap[gb996]?=some (.cells #[(.slice Ao22 t986.length co22),.int .i64 t989,.string t990,.int .i64 t991] 36 (0,0))) ∧ Aside0 (wc.heap[gb1003]?=some (.cells #[(.slice Ao28 t1025.length co28),.int .i64 t1000,.string t1001,.int .i64 t1002] 36 (0,0))) ∧ Aside0 (wc.heap[gb1014]?=some (.cells #[(.slice Ao34 t1004.length co34),.int .i64 t1007,.string t1008,.int .i64 t1009] 36 (0,0))) ∧ Aside0 (wc.heap[gb1050]?=some (.cells #[(.slice Ao110 t1040.length co110),.int .i64 t1043,.string t1044,.int .i64 t1045] 36 (0,0))) ∧ Aside0 (Below w.heap.size w wc))
                        case first=>
                          have H:=HC93.out
                          clear HC93
                          replace H:=Option.bind_eq_some_iff.mp H
                          obtain ⟨t1051,A1160,H⟩:=H
                          replace H:(if t1051=true then ((laws_eqIntS.f kj57 t1046 t992).bind fun t1052=> (if t1052=true then (laws_FnExactTakePlaces.j2 kj57 t1031 t1030 (t1049 !=t995) t1029 t1007 t1008 t1009) else (none))) else (none))=some r:=H
                          have A116:=Aside0.mk A1160
                          clear A1160
                          by_cases c117:t1051=true
                          · subst c117
                            have H1:((laws_eqIntS.f kj57 t1046 t992).bind fun t1052=> (if t1052=true then (laws_FnExactTakePlaces.j2 kj57 t1031 t1030 (t1049 !=t995) t1029 t1007 t1008 t1009) else (none)))=some r:=by rw [if_pos rfl] at H;exact H
                            clear H
                            have H:=H1
                            clear H1
                            replace H:=Option.bind_eq_some_iff.mp H
                            obtain ⟨t1052,A1180,H⟩:=H
                            replace H:(if t1052=true then (laws_FnExactTakePlaces.j2 kj57 t1031 t1030 (t1049 !=t995) t1029 t1007 t1008 t1009) else (none))=some r:=H
                            have A118:=Aside0.mk A1180
                            clear A1180
                            by_cases c119:t1052=true
                            · subst c119
                              have H1:(laws_FnExactTakePlaces.j2 kj57 t1031 t1030 (t1049 !=t995) t1029 t1007 t1008 t1009)=some r:=by rw [if_pos rfl] at H;exact H
                              clear H
                              have H:=H1
                              clear H1
                              have H':=Aside0.mk H
                              clear H
                              have hnb120:=NB1050_978.out
                              have hnc120:=NB978_1050.out
                              have hnb121:=NB1050_996.out
                              have hnc121:=NB996_1050.out
                              have hnb122:=NB1050_1003.out
                              have hnc122:=NB1003_1050.out
                              have hnb123:=NB1050_1014.out
                              have hnc123:=NB1014_1050.out
                              have hcz124_0:w109.cell? ⟨gb1050,0,none⟩=some (.slice none 0 0):=(blk_cell BK1050.out 0).trans rfl
                              have hcz124_1:w109.cell? ⟨gb1050,1,none⟩=some (.int .i64 0):=(blk_cell BK1050.out 1).trans rfl
                              have hcz124_2:w109.cell? ⟨gb1050,2,none⟩=some (.string (⟨#[]⟩:ByteArray)):=(blk_cell BK1050.out 2).trans rfl
                              have hcz124_3:w109.cell? ⟨gb1050,3,none⟩=some (.int .i64 0):=(blk_cell BK1050.out 3).trans rfl
                              have hfz124_0:=blk_frozen BK1050.out 0
                              have hfz124_1:=blk_frozen BK1050.out 1
                              have hfz124_2:=blk_frozen BK1050.out 2
                              have hfz124_3:=blk_frozen BK1050.out 3
                              have hnb125:=NB996_978.out
                              have hnc125:=NB978_996.out
                              have hnb126:=NB996_1003.out
                              have hnc126:=NB1003_996.out
                              have hnb127:=NB996_1014.out
                              have hnc127:=NB1014_996.out
                              have hcz128_0:w109.cell? ⟨gb996,0,none⟩=some (.slice Ao22 t986.length co22):=(blk_cell BK996.out 0).trans rfl
                              have hcz128_1:w109.cell? ⟨gb996,1,none⟩=some (.int .i64 t989):=(blk_cell BK996.out 1).trans rfl
                              have hcz128_2:w109.cell? ⟨gb996,2,none⟩=some (.string t990):=(blk_cell BK996.out 2).trans rfl
                              have hcz128_3:w109.cell? ⟨gb996,3,none⟩=some (.int .i64 t991):=(blk_cell BK996.out 3).trans rfl
                              have hfz128_0:=blk_frozen BK996.out 0
                              have hfz128_1:=blk_frozen BK996.out 1
                              have hfz128_2:=blk_frozen BK996.out 2
                              have hfz128_3:=blk_frozen BK996.out 3
                              go_wp2_with (first|((with_reducible refine gate_callee (f:=36) rfl ?_);refine goesL_ (some 117) rfl rfl Try.func36 (by kernel_rfl) rfl #[.agg #[.slice Ao110 t1040.length co110,.int .i64 t1043,.string t1044,.int .i64 t1045],.agg #[.slice Ao22 t986.length co22,.int .i64 t989,.string t990,.int .i64 t991]] rfl (by (try simp only [List.map_toArray,List.map_cons,List.map_nil]);first|done|rfl|(simp only [List.length_drop,List.length_take];rfl)) ?_;(with_reducible refine (laws_eqSource.calls kj57 _ _ t1040 t1043 t1044 t1045 _ _ t986 t989 t990 t991 true _ ?side1 ?side2 ?side3 ?side4 A116.out).mono ?_);(case side1=> refine (Kd.R_reads' (e:=79) (base:=w.heap.size) (ok:=fun k_=> ((((True ∧ some k_ ≠ (.slice Ao22 t986.length co22:Value).ownBlock) ∧ some k_ ≠ (.slice Ao28 t1025.length co28:Value).ownBlock) ∧ some k_ ≠ (.slice Ao34 t1004.length co34:Value).ownBlock) ∧ some k_ ≠ (.slice Ao107 t1034.length co107:Value).ownBlock)) (n:=t1040.length) (c:=co110) ?_).2.2;exact (by (with_reducible repeat (first|apply Kd.R_alloc|apply Kd.R_drewN|apply Kd.R_drew));exact (Kd.R_mono (Kd.R_far (p:=⟨gb1050,3,none⟩) (Kd.R_far (p:=⟨gb1050,2,none⟩) (Kd.R_far (p:=⟨gb1050,1,none⟩) (Kd.R_far (p:=⟨gb1050,0,none⟩) (Kd.R_types HO1042.out BK1050.out (by decide)) (fun _ hk=> hk.2) (.slice Ao110 t1040.length co110)) (fun _ hk=> hk.2) (.int .i64 t1043)) (fun _ hk=> hk.2) (.string t1044)) (fun _ hk=> hk.2) (.int .i64 t1045)) (fun _ h_=> h_.1))));(case side2=> exact (Kd.R_reads' HO1042.out).2.1);(case side3=> refine (Kd.R_reads' (e:=79) (base:=w.heap.size) (ok:=fun k_=> (((some k_ ≠ (.slice Ao28 t1025.length co28:Value).ownBlock ∧ some k_ ≠ (.slice Ao34 t1004.length co34:Value).ownBlock) ∧ some k_ ≠ (.slice Ao107 t1034.length co107:Value).ownBlock) ∧ some k_ ≠ (.slice Ao110 t1040.length co110:Value).ownBlock)) (n:=t986.length) (c:=co22) ?_).2.2;exact (by (with_reducible repeat (first|apply Kd.R_alloc|apply Kd.R_drewN|apply Kd.R_drew));exact (Kd.R_mono (Kd.R_far (p:=⟨gb1050,3,none⟩) (Kd.R_far (p:=⟨gb1050,2,none⟩) (Kd.R_far (p:=⟨gb1050,1,none⟩) (Kd.R_far (p:=⟨gb1050,0,none⟩) (Kd.R_types HO_997000.out BK1050.out (by decide)) (fun _ hk=> hk.2) (.slice Ao110 t1040.length co110)) (fun _ hk=> hk.2) (.int .i64 t1043)) (fun _ hk=> hk.2) (.string t1044)) (fun _ hk=> hk.2) (.int .i64 t1045)) (fun _ h_=> h_.1))));(case side4=> exact (Kd.R_reads' HO_997000.out).2.1);rintro e w129 ⟨rfl,hb⟩;refine ⟨_,rfl,?_⟩;have n0_:=Aside0.mk (Kd.R_below (by (with_reducible repeat (first|apply Kd.R_alloc|apply Kd.R_drewN|apply Kd.R_drew));exact (Kd.R_mono (Kd.R_far (p:=⟨gb1050,3,none⟩) (Kd.R_far (p:=⟨gb1050,2,none⟩) (Kd.R_far (p:=⟨gb1050,1,none⟩) (Kd.R_far (p:=⟨gb1050,0,none⟩) (Kd.R_types HO_9.out BK1050.out (by decide)) (fun _ hk=> hk.2) (.slice Ao110 t1040.length co110)) (fun _ hk=> hk.2) (.int .i64 t1043)) (fun _ hk=> hk.2) (.string t1044)) (fun _ hk=> hk.2) (.int .i64 t1045)) (fun _ h_=> h_.1))) hb);have n1_:=Aside0.mk (Kd.R_below (by (with_reducible repeat (first|apply Kd.R_alloc|apply Kd.R_drewN|apply Kd.R_drew));exact (Kd.R_mono (Kd.R_far (p:=⟨gb1050,3,none⟩) (Kd.R_far (p:=⟨gb1050,2,none⟩) (Kd.R_far (p:=⟨gb1050,1,none⟩) (Kd.R_far (p:=⟨gb1050,0,none⟩) (Kd.R_types HO_13.out BK1050.out (by decide)) (fun _ hk=> hk.2) (.slice Ao110 t1040.length co110)) (fun _ hk=> hk.2) (.int .i64 t1043)) (fun _ hk=> hk.2) (.string t1044)) (fun _ hk=> hk.2) (.int .i64 t1045)) (fun _ h_=> h_.1))) hb);have n2_:=Aside0.mk (Kd.R_below (by (with_reducible repeat (first|apply Kd.R_alloc|apply Kd.R_drewN|apply Kd.R_drew));exact (Kd.R_mono (Kd.R_far (p:=⟨gb1050,3,none⟩) (Kd.R_far (p:=⟨gb1050,2,none⟩) (Kd.R_far (p:=⟨gb1050,1,none⟩) (Kd.R_far (p:=⟨gb1050,0,none⟩) (Kd.R_types HO_997000.out BK1050.out (by decide)) (fun _ hk=> hk.2) (.slice Ao110 t1040.length co110)) (fun _ hk=> hk.2) (.int .i64 t1043)) (fun _ hk=> hk.2) (.string t1044)) (fun _ hk=> hk.2) (.int .i64 t1045)) (fun _ h_=> h_.1))) hb);have n3_:=Aside0.mk (Kd.R_below (by (with_reducible repeat (first|apply Kd.R_alloc|apply Kd.R_drewN|apply Kd.R_drew));exact (Kd.R_mono (Kd.R_far (p:=⟨gb1050,3,none⟩) (Kd.R_far (p:=⟨gb1050,2,none⟩) (Kd.R_far (p:=⟨gb1050,1,none⟩) (Kd.R_far (p:=⟨gb1050,0,none⟩) (Kd.R_types HO_1004000.out BK1050.out (by decide)) (fun _ hk=> hk.2) (.slice Ao110 t1040.length co110)) (fun _ hk=> hk.2) (.int .i64 t1043)) (fun _ hk=> hk.2) (.string t1044)) (fun _ hk=> hk.2) (.int .i64 t1045)) (fun _ h_=> h_.1))) hb);have n4_:=Aside0.mk (Kd.R_below (by (with_reducible repeat (first|apply Kd.R_alloc|apply Kd.R_drewN|apply Kd.R_drew));exact (Kd.R_mono (Kd.R_far (p:=⟨gb1050,3,none⟩) (Kd.R_far (p:=⟨gb1050,2,none⟩) (Kd.R_far (p:=⟨gb1050,1,none⟩) (Kd.R_far (p:=⟨gb1050,0,none⟩) (Kd.R_types HO_1015000.out BK1050.out (by decide)) (fun _ hk=> hk.2) (.slice Ao110 t1040.length co110)) (fun _ hk=> hk.2) (.int .i64 t1043)) (fun _ hk=> hk.2) (.string t1044)) (fun _ hk=> hk.2) (.int .i64 t1045)) (fun _ h_=> h_.1))) hb);have n5_:=Aside0.mk (Kd.R_below (by (with_reducible repeat (first|apply Kd.R_alloc|apply Kd.R_drewN|apply Kd.R_drew));exact (Kd.R_mono (Kd.R_far (p:=⟨gb1050,3,none⟩) (Kd.R_far (p:=⟨gb1050,2,none⟩) (Kd.R_far (p:=⟨gb1050,1,none⟩) (Kd.R_far (p:=⟨gb1050,0,none⟩) (Kd.R_types HO1036.out BK1050.out (by decide)) (fun _ hk=> hk.2) (.slice Ao110 t1040.length co110)) (fun _ hk=> hk.2) (.int .i64 t1043)) (fun _ hk=> hk.2) (.string t1044)) (fun _ hk=> hk.2) (.int .i64 t1045)) (fun _ h_=> h_.1))) hb);have n6_:=Aside0.mk (Kd.R_below (by (with_reducible repeat (first|apply Kd.R_alloc|apply Kd.R_drewN|apply Kd.R_drew));exact (Kd.R_mono (Kd.R_far (p:=⟨gb1050,3,none⟩) (Kd.R_far (p:=⟨gb1050,2,none⟩) (Kd.R_far (p:=⟨gb1050,1,none⟩) (Kd.R_far (p:=⟨gb1050,0,none⟩) (Kd.R_types HO1042.out BK1050.out (by decide)) (fun _ hk=> hk.2) (.slice Ao110 t1040.length co110)) (fun _ hk=> hk.2) (.int .i64 t1043)) (fun _ hk=> hk.2) (.string t1044)) (fun _ hk=> hk.2) (.int .i64 t1045)) (fun _ h_=> h_.1))) hb);have n7_:=Aside0.mk (Kd.R_below (by (with_reducible repeat (first|apply Kd.R_alloc|apply Kd.R_drewN|apply Kd.R_drew));exact (Kd.R_mono (Kd.R_far (p:=⟨gb1050,3,none⟩) (Kd.R_far (p:=⟨gb1050,2,none⟩) (Kd.R_far (p:=⟨gb1050,1,none⟩) (Kd.R_far (p:=⟨gb1050,0,none⟩) (Kd.R_types HO1048.out BK1050.out (by decide)) (fun _ hk=> hk.2) (.slice Ao110 t1040.length co110)) (fun _ hk=> hk.2) (.int .i64 t1043)) (fun _ hk=> hk.2) (.string t1044)) (fun _ hk=> hk.2) (.int .i64 t1045)) (fun _ h_=> h_.1))) hb);have n8_:=Aside0.mk (blk_below (g:=gb978) (o:= .cells #[.slice A0_0 l0_0.length c0_0,.int .i64 a0_1,.string a0_2,.int .i64 a0_3] 61 (0,0)) (by (with_reducible repeat (first|apply bN|apply bd|apply bA));refine blk_far ?_ NB978_1050.out _;(with_reducible repeat (first|apply bN|apply bd|apply bA));refine blk_far ?_ NB978_1050.out _;(with_reducible repeat (first|apply bN|apply bd|apply bA));refine blk_far ?_ NB978_1050.out _;(with_reducible repeat (first|apply bN|apply bd|apply bA));refine blk_far ?_ NB978_1050.out _;(with_reducible repeat (first|apply bN|apply bd|apply bA));exact BK978.out) hb);have n9_:=Aside0.mk (blk_below (g:=gb996) (o:= .cells #[.slice Ao22 t986.length co22,.int .i64 t989,.string t990,.int .i64 t991] 36 (0,0)) (by (with_reducible repeat (first|apply bN|apply bd|apply bA));refine blk_far ?_ NB996_1050.out _;(with_reducible repeat (first|apply bN|apply bd|apply bA));refine blk_far ?_ NB996_1050.out _;(with_reducible repeat (first|apply bN|apply bd|apply bA));refine blk_far ?_ NB996_1050.out _;(with_reducible repeat (first|apply bN|apply bd|apply bA));refine blk_far ?_ NB996_1050.out _;(with_reducible repeat (first|apply bN|apply bd|apply bA));exact BK996.out) hb);have n10_:=Aside0.mk (blk_below (g:=gb1003) (o:= .cells #[.slice Ao28 t1025.length co28,.int .i64 t1000,.string t1001,.int .i64 t1002] 36 (0,0)) (by (with_reducible repeat (first|apply bN|apply bd|apply bA));refine blk_far ?_ NB1003_1050.out _;(with_reducible repeat (first|apply bN|apply bd|apply bA));refine blk_far ?_ NB1003_1050.out _;(with_reducible repeat (first|apply bN|apply bd|apply bA));refine blk_far ?_ NB1003_1050.out _;(with_reducible repeat (first|apply bN|apply bd|apply bA));refine blk_far ?_ NB1003_1050.out _;(with_reducible repeat (first|apply bN|apply bd|apply bA));exact BK1003.out) hb);have n11_:=Aside0.mk (blk_below (g:=gb1014) (o:= .cells #[.slice Ao34 t1004.length co34,.int .i64 t1007,.string t1008,.int .i64 t1009] 36 (0,0)) (by (with_reducible repeat (first|apply bN|apply bd|apply bA));refine blk_far ?_ NB1014_1050.out _;(with_reducible repeat (first|apply bN|apply bd|apply bA));refine blk_far ?_ NB1014_1050.out _;(with_reducible repeat (first|apply bN|apply bd|apply bA));refine blk_far ?_ NB1014_1050.out _;(with_reducible repeat (first|apply bN|apply bd|apply bA));refine blk_far ?_ NB1014_1050.out _;(with_reducible repeat (first|apply bN|apply bd|apply bA));exact BK1014.out) hb);have n12_:=Aside0.mk (blk_below (g:=gb1050) (o:= .cells #[.slice Ao110 t1040.length co110,.int .i64 t1043,.string t1044,.int .i64 t1045] 36 (0,0)) (by (with_reducible repeat (first|apply bN|apply bd|apply bA));refine blk_put (cs:= #[.slice Ao110 t1040.length co110,.int .i64 t1043,.string t1044,.int .i64 0]) ?_ 3 _ rfl;(with_reducible repeat (first|apply bN|apply bd|apply bA));refine blk_put (cs:= #[.slice Ao110 t1040.length co110,.int .i64 t1043,.string (⟨#[]⟩:ByteArray),.int .i64 0]) ?_ 2 _ rfl;(with_reducible repeat (first|apply bN|apply bd|apply bA));refine blk_put (cs:= #[.slice Ao110 t1040.length co110,.int .i64 0,.string (⟨#[]⟩:ByteArray),.int .i64 0]) ?_ 1 _ rfl;(with_reducible repeat (first|apply bN|apply bd|apply bA));refine blk_put (cs:= #[.slice none 0 0,.int .i64 0,.string (⟨#[]⟩:ByteArray),.int .i64 0]) ?_ 0 _ rfl;(with_reducible repeat (first|apply bN|apply bd|apply bA));exact BK1050.out) hb);have n13_:=Aside0.mk (below_step (by repeat (first|(with_reducible first|exact HB.out|apply bwA|apply bwN|apply bwD|refine bwS ?_ GE978.out|refine bwS ?_ GE996.out|refine bwS ?_ GE1003.out|refine bwS ?_ GE1014.out|refine bwS ?_ GE1050.out)|exact HB.out)) hb);clear HO_9;clear HO_13;clear HO_997000;clear HO_1004000;clear HO_1015000;clear HO1036;clear HO1042;clear HO1048;clear BK978;clear BK996;clear BK1003;clear BK1014;clear BK1050;clear HB;have HO_9:=n0_;have HO_13:=n1_;have HO_997000:=n2_;have HO_1004000:=n3_;have HO_1015000:=n4_;have HO1036:=n5_;have HO1042:=n6_;have HO1048:=n7_;have BK978:=n8_;have BK996:=n9_;have BK1003:=n10_;have BK1014:=n11_;have BK1050:=n12_;have HB:=n13_;clear n0_ n1_ n2_ n3_ n4_ n5_ n6_ n7_ n8_ n9_ n10_ n11_ n12_ n13_;(try clear hb);(try clear hb2);(try clear hk);(try clear hi);obtain ⟨Ao130,co130,eo130⟩:=Kd.R_slice HO1048.out;subst eo130;obtain ⟨Ao131,co131,eo131⟩:=Kd.R_slice HO_9.out;subst eo131)|(go_at_call 77;(with_reducible refine (laws_eqIntS.calls kj57 _ _ t1046 _ _ t992 true _ ?side1 ?side2 ?side3 ?side4 A118.out).mono ?_);(case side1=> repeat (first|exact (Kd.R_reads' HO1048.out).2.2|(with_reducible refine Kd.C_alloc ?_ _)|(with_reducible refine Kd.C_drewN ?_ _)|(with_reducible refine Kd.C_drew ?_)));(case side2=> exact (Kd.R_reads' HO1048.out).2.1);(case side3=> repeat (first|exact (Kd.R_reads' HO_9.out).2.2|(with_reducible refine Kd.C_alloc ?_ _)|(with_reducible refine Kd.C_drewN ?_ _)|(with_reducible refine Kd.C_drew ?_)));(case side4=> exact (Kd.R_reads' HO_9.out).2.1);rintro e w' ⟨rfl,⟨nd,rfl⟩⟩))
                              go_meet
                              case rel=> exact ⟨_,((t1049 !=t995)),(by first|rfl|(simp;done)|(simp [*];done)),H',⟨by have:=HJ12.out;have:=HJ57.out;first|omega|exact Nat.le_refl _⟩,⟨by (try simp only [hl1004000_57]);(with_reducible repeat (first|apply Kd.R_alloc|apply Kd.R_drewN|apply Kd.R_drew));exact Kd.R_mono HO_13.out (fun _ hk=> trivial)⟩,⟨by (try simp only [hl1004000_57]);(with_reducible repeat (first|apply Kd.R_alloc|apply Kd.R_drewN|apply Kd.R_drew));exact Kd.R_mono HO_997000.out (fun _ hk=> ⟨hk.1.1.1,⟨hk.1.1.2,hk.2⟩⟩)⟩,⟨by (try simp only [hl1004000_57]);(with_reducible repeat (first|apply Kd.R_alloc|apply Kd.R_drewN|apply Kd.R_drew));exact Kd.R_mono HO_1004000.out (fun _ hk=> ⟨hk.1.1.1,⟨hk.1.1.2,hk.2⟩⟩)⟩,⟨by (try simp only [hl1004000_57]);(with_reducible repeat (first|apply Kd.R_alloc|apply Kd.R_drewN|apply Kd.R_drew));exact Kd.R_mono HO_1015000.out (fun _ hk=> ⟨hk.1.1.1,⟨hk.1.1.2,hk.2⟩⟩)⟩,⟨by (try simp only [hl1004000_57]);(with_reducible repeat (first|apply Kd.R_alloc|apply Kd.R_drewN|apply Kd.R_drew));exact Kd.R_mono HO1042.out (fun _ hk=> ⟨hk.1.1.1.2,⟨hk.1.1.2,hk.1.2⟩⟩)⟩,⟨by (try simp only [hl1004000_57]);(with_reducible repeat (first|apply bN|apply bd|apply bA));exact BK978.out⟩,⟨by (try simp only [hl1004000_57]);(with_reducible repeat (first|apply bN|apply bd|apply bA));exact BK996.out⟩,⟨by (try simp only [hl1004000_57]);(with_reducible repeat (first|apply bN|apply bd|apply bA));exact BK1003.out⟩,⟨by (try simp only [hl1004000_57]);(with_reducible repeat (first|apply bN|apply bd|apply bA));exact BK1014.out⟩,⟨by (try simp only [hl1004000_57]);(with_reducible repeat (first|apply bN|apply bd|apply bA));exact BK1050.out⟩,⟨by repeat (first|(with_reducible first|exact HB.out|apply bwA|apply bwN|apply bwD|refine bwS ?_ GE978.out|refine bwS ?_ GE996.out|refine bwS ?_ GE1003.out|refine bwS ?_ GE1014.out|refine bwS ?_ GE1050.out)|exact HB.out)⟩⟩
                            · replace c119:=Bool.eq_false_iff.mpr c119
                              subst c119
                              have H1:(none)=some r:=by rw [if_neg (show ¬ (false=true) by decide)] at H;exact H
                              clear H
                              have H:=H1
                              clear H1
                              exact absurd H (by simp)
                          · replace c117:=Bool.eq_false_iff.mpr c117
                            subst c117
                            have H1:(none)=some r:=by rw [if_neg (show ¬ (false=true) by decide)] at H;exact H
                            clear H
                            have H:=H1
                            clear H1
                            exact absurd H (by simp)
                        case rest=>
                          clear HC93
                          try clear c1
                          try clear c2
                          try clear p2
                          try clear c3
                          try clear c4
                          try clear c5
                          try clear c5b0
                          try clear c6
                          try clear c7
                          try clear c8
                          try clear c9
                          try clear c10
                          try clear c11
                          try clear c12
                          try clear c20
                          try clear c23
                          try clear c29
                          try clear c30
                          try clear c35
                          try clear c36
                          try clear c37
                          try clear c38
                          try clear c40
                          try clear c42
                          try clear c43
                          try clear c44
                          try clear c45
                          try clear c47
                          try clear c48
                          try clear c53
                          try clear c55
                          try clear c56
                          try clear c63
                          try clear c64
                          try clear c65
                          try clear c68
                          try clear c68b0
                          try clear c70
                          try clear c72
                          try clear c73
                          try clear c74
                          try clear c75
                          try clear c76
                          try clear c77
                          try clear c78
                          try clear c79
                          try clear c83
                          try clear c87
                          try clear c87b0
                          try clear c89
                          try clear c89b0
                          try clear c90
                          try clear c90b0
                          try clear c90b1
                          try clear c94
                          try clear c95
                          try clear c96
                          try clear c103
                          try clear c104
                          try clear c111
                          try clear c112
                          try clear c113
                          try clear c114
                          try clear c117
                          try clear c119
                          try clear c120
                          try clear c121
                          try clear c122
                          try clear c123
                          try clear c125
                          try clear c126
                          try clear c127
                          try clear hcz101_0
                          try clear hcz101_1
                          try clear hcz101_2
                          try clear hcz101_3
                          try clear hcz105_0
                          try clear hcz105_1
                          try clear hcz105_2
                          try clear hcz105_3
                          try clear hcz115_0
                          try clear hcz115_1
                          try clear hcz115_2
                          try clear hcz115_3
                          try clear hcz124_0
                          try clear hcz124_1
                          try clear hcz124_2
                          try clear hcz124_3
                          try clear hcz128_0
                          try clear hcz128_1
                          try clear hcz128_2
                          try clear hcz128_3
                          try clear hcz15_0
                          try clear hcz15_1
                          try clear hcz15_2
                          try clear hcz15_3
                          try clear hcz17_0
                          try clear hcz17_1
                          try clear hcz17_2
                          try clear hcz17_3
                          try clear hcz24_0
                          try clear hcz24_1
                          try clear hcz24_2
                          try clear hcz24_3
                          try clear hcz25_0
                          try clear hcz25_1
                          try clear hcz25_2
                          try clear hcz25_3
                          try clear hcz31_0
                          try clear hcz31_1
                          try clear hcz31_2
                          try clear hcz31_3
                          try clear hcz38_0
                          try clear hcz38_1
                          try clear hcz38_2
                          try clear hcz38_3
                          try clear hcz46_0
                          try clear hcz46_1
                          try clear hcz46_2
                          try clear hcz46_3
                          try clear hcz49_0
                          try clear hcz49_1
                          try clear hcz49_2
                          try clear hcz49_3
                          try clear hcz66_0
                          try clear hcz66_1
                          try clear hcz66_2
                          try clear hcz66_3
                          try clear hcz76_0
                          try clear hcz76_1
                          try clear hcz76_2
                          try clear hcz76_3
                          try clear hcz79_0
                          try clear hcz79_1
                          try clear hcz79_2
                          try clear hcz79_3
                          try clear hcz7_0
                          try clear hcz7_1
                          try clear hcz7_2
                          try clear hcz7_3
                          try clear hcz97_0
                          try clear hcz97_1
                          try clear hcz97_2
                          try clear hcz97_3
                          try clear hfz101_0
                          try clear hfz101_1
                          try clear hfz101_2
                          try clear hfz101_3
                          try clear hfz105_0
                          try clear hfz105_1
                          try clear hfz105_2
                          try clear hfz105_3
                          try clear hfz115_0
                          try clear hfz115_1
                          try clear hfz115_2
                          try clear hfz115_3
                          try clear hfz124_0
                          try clear hfz124_1
                          try clear hfz124_2
                          try clear hfz124_3
                          try clear hfz128_0
                          try clear hfz128_1
                          try clear hfz128_2
                          try clear hfz128_3
                          try clear hfz15_0
                          try clear hfz15_1
                          try clear hfz15_2
                          try clear hfz15_3
                          try clear hfz17_0
                          try clear hfz17_1
                          try clear hfz17_2
                          try clear hfz17_3
                          try clear hfz24_0
                          try clear hfz24_1
                          try clear hfz24_2
                          try clear hfz24_3
                          try clear hfz25_0
                          try clear hfz25_1
                          try clear hfz25_2
                          try clear hfz25_3
                          try clear hfz31_0
                          try clear hfz31_1
                          try clear hfz31_2
                          try clear hfz31_3
                          try clear hfz38_0
                          try clear hfz38_1
                          try clear hfz38_2
                          try clear hfz38_3
                          try clear hfz46_0
                          try clear hfz46_1
                          try clear hfz46_2
                          try clear hfz46_3
                          try clear hfz49_0
                          try clear hfz49_1
                          try clear hfz49_2
                          try clear hfz49_3
                          try clear hfz66_0
                          try clear hfz66_1
                          try clear hfz66_2
                          try clear hfz66_3
                          try clear hfz76_0
                          try clear hfz76_1
                          try clear hfz76_2
                          try clear hfz76_3
                          try clear hfz79_0
                          try clear hfz79_1
                          try clear hfz79_2
                          try clear hfz79_3
                          try clear hfz7_0
                          try clear hfz7_1
                          try clear hfz7_2
                          try clear hfz7_3
                          try clear hfz97_0
                          try clear hfz97_1
                          try clear hfz97_2
                          try clear hfz97_3
                          try clear p2
                          obtain ⟨kq,x129_92,rfl,HA,HJ92,HO_13,HO_997000,HO_1004000,HO_1015000,HO_1051000,BK978,BK996,BK1003,BK1014,BK1050,HB⟩:=hcut
                          have hl13_92:=(Kd.R_reads' HO_13.out).1
                          rw [hl13_92] at HO_13
                          (try simp only [hl13_92])
                          (try simp only [hl13_92] at BK978)
                          (try simp only [hl13_92] at BK996)
                          (try simp only [hl13_92] at BK1003)
                          (try simp only [hl13_92] at BK1014)
                          (try simp only [hl13_92] at BK1050)
                          (try simp only [hl13_92] at HO_997000)
                          (try simp only [hl13_92] at HO_1004000)
                          (try simp only [hl13_92] at HO_1015000)
                          (try simp only [hl13_92] at HO_1051000)
                          have hl1015000_92:=(Kd.R_reads' HO_1015000.out).1
                          rw [hl1015000_92] at HO_1015000
                          (try simp only [hl1015000_92])
                          (try simp only [hl1015000_92] at BK978)
                          (try simp only [hl1015000_92] at BK996)
                          (try simp only [hl1015000_92] at BK1003)
                          (try simp only [hl1015000_92] at BK1014)
                          (try simp only [hl1015000_92] at BK1050)
                          (try simp only [hl1015000_92] at HO_13)
                          (try simp only [hl1015000_92] at HO_997000)
                          (try simp only [hl1015000_92] at HO_1004000)
                          (try simp only [hl1015000_92] at HO_1051000)
                          cases kq with
                          |zero=> exact absurd HA.out (by simp [laws_FnExactTakePlaces.j2])
                          |succ kj92=>
                            have H:=HA.out
                            clear HA
                            simp only [laws_FnExactTakePlaces.j2] at H
                            by_cases c132:x129_92=true
                            · subst c132
                              have H1:(none)=some r:=by rw [if_pos rfl] at H;exact H
                              clear H
                              have H:=H1
                              clear H1
                              exact absurd H (by simp)
                            · replace c132:=Bool.eq_false_iff.mpr c132
                              subst c132
                              have H1:((laws_heldSource.f kj92 t1029 t1007 t1008 t1009 1).bind fun t1053=> (if t1053 < 0 then (none) else ((laws_heldIntS.f kj92 t1031 t1053).bind fun t1054=> (if t1054 < 0 then (none) else (if t1054=t1030 then (some true) else (none))))))=some r:=by rw [if_neg (show ¬ (false=true) by decide)] at H;exact H
                              clear H
                              have H:=H1
                              clear H1
                              replace H:=Option.bind_eq_some_iff.mp H
                              obtain ⟨t1053,A1330,H⟩:=H
                              replace H:(if t1053 < 0 then (none) else ((laws_heldIntS.f kj92 t1031 t1053).bind fun t1054=> (if t1054 < 0 then (none) else (if t1054=t1030 then (some true) else (none)))))=some r:=H
                              have A133:=Aside0.mk A1330
                              clear A1330
                              by_cases c134:t1053 < 0
                              · rw [if_pos c134] at H
                                exact absurd H (by simp)
                              · rw [if_neg c134] at H
                                have c134b0:decide (t1053 < 0)=false:=decide_eq_false c134
                                clear c134
                                replace H:=Option.bind_eq_some_iff.mp H
                                obtain ⟨t1054,A1350,H⟩:=H
                                replace H:(if t1054 < 0 then (none) else (if t1054=t1030 then (some true) else (none)))=some r:=H
                                have A135:=Aside0.mk A1350
                                clear A1350
                                by_cases c136:t1054 < 0
                                · rw [if_pos c136] at H
                                  exact absurd H (by simp)
                                · rw [if_neg c136] at H
                                  have c136b0:decide (t1054 < 0)=false:=decide_eq_false c136
                                  clear c136
                                  by_cases c137:t1054=t1030
                                  · rw [if_pos c137] at H
                                    have c137b0:(t1054==t1030)=true:=beq_iff_eq.mpr c137
                                    have c137b1:(t1054 !=t1030)=false:=bne_eq_false_iff_eq.mpr c137
                                    clear c137
                                    obtain rfl:=Option.some.inj H
                                    have hnb138:=NB1014_978.out
                                    have hnc138:=NB978_1014.out
                                    have hnb139:=NB1014_996.out
                                    have hnc139:=NB996_1014.out
                                    have hnb140:=NB1014_1003.out
                                    have hnc140:=NB1003_1014.out
                                    have hnb141:=NB1014_1050.out
                                    have hnc141:=NB1050_1014.out
                                    have hcz142_0:wc.cell? ⟨gb1014,0,none⟩=some (.slice Ao34 t1029.length co34):=(blk_cell BK1014.out 0).trans rfl
                                    have hcz142_1:wc.cell? ⟨gb1014,1,none⟩=some (.int .i64 t1007):=(blk_cell BK1014.out 1).trans rfl
                                    have hcz142_2:wc.cell? ⟨gb1014,2,none⟩=some (.string t1008):=(blk_cell BK1014.out 2).trans rfl
                                    have hcz142_3:wc.cell? ⟨gb1014,3,none⟩=some (.int .i64 t1009):=(blk_cell BK1014.out 3).trans rfl
                                    have hfz142_0:=blk_frozen BK1014.out 0
                                    have hfz142_1:=blk_frozen BK1014.out 1
                                    have hfz142_2:=blk_frozen BK1014.out 2
                                    have hfz142_3:=blk_frozen BK1014.out 3
                                    go_wp2_with (first|((with_reducible refine gate_callee (f:=38) rfl ?_);refine goesL_ (some 132) rfl rfl Try.func38 (by kernel_rfl) rfl #[.agg #[.slice Ao34 t1029.length co34,.int .i64 t1007,.string t1008,.int .i64 t1009],.int .i64 1] rfl (by (try simp only [List.map_toArray,List.map_cons,List.map_nil]);first|done|rfl|(simp only [List.length_drop,List.length_take];rfl)) ?_;(with_reducible refine (laws_heldSource.calls kj92 _ _ t1029 t1007 t1008 t1009 1 t1053 _ ?side1 ?side2 A133.out).mono ?_);(case side1=> repeat (first|exact (Kd.R_reads' HO_1015000.out).2.2|(with_reducible refine Kd.C_alloc ?_ _)|(with_reducible refine Kd.C_drewN ?_ _)|(with_reducible refine Kd.C_drew ?_)));(case side2=> exact (Kd.R_reads' HO_1015000.out).2.1);rintro e w143 ⟨rfl,hb⟩;refine ⟨_,rfl,?_⟩;have n0_:=Aside0.mk (Kd.R_below (by (with_reducible repeat (first|apply Kd.R_alloc|apply Kd.R_drewN|apply Kd.R_drew));exact HO_13.out) hb);have n1_:=Aside0.mk (Kd.R_below (by (with_reducible repeat (first|apply Kd.R_alloc|apply Kd.R_drewN|apply Kd.R_drew));exact HO_997000.out) hb);have n2_:=Aside0.mk (Kd.R_below (by (with_reducible repeat (first|apply Kd.R_alloc|apply Kd.R_drewN|apply Kd.R_drew));exact HO_1004000.out) hb);have n3_:=Aside0.mk (Kd.R_below (by (with_reducible repeat (first|apply Kd.R_alloc|apply Kd.R_drewN|apply Kd.R_drew));exact HO_1015000.out) hb);have n4_:=Aside0.mk (Kd.R_below (by (with_reducible repeat (first|apply Kd.R_alloc|apply Kd.R_drewN|apply Kd.R_drew));exact HO_1051000.out) hb);have n5_:=Aside0.mk (blk_below (g:=gb978) (o:= .cells #[.slice A0_0 l0_0.length c0_0,.int .i64 a0_1,.string a0_2,.int .i64 a0_3] 61 (0,0)) (by (with_reducible repeat (first|apply bN|apply bd|apply bA));exact BK978.out) hb);have n6_:=Aside0.mk (blk_below (g:=gb996) (o:= .cells #[.slice Ao22 t986.length co22,.int .i64 t989,.string t990,.int .i64 t991] 36 (0,0)) (by (with_reducible repeat (first|apply bN|apply bd|apply bA));exact BK996.out) hb);have n7_:=Aside0.mk (blk_below (g:=gb1003) (o:= .cells #[.slice Ao28 t1025.length co28,.int .i64 t1000,.string t1001,.int .i64 t1002] 36 (0,0)) (by (with_reducible repeat (first|apply bN|apply bd|apply bA));exact BK1003.out) hb);have n8_:=Aside0.mk (blk_below (g:=gb1014) (o:= .cells #[.slice Ao34 t1029.length co34,.int .i64 t1007,.string t1008,.int .i64 t1009] 36 (0,0)) (by (with_reducible repeat (first|apply bN|apply bd|apply bA));exact BK1014.out) hb);have n9_:=Aside0.mk (blk_below (g:=gb1050) (o:= .cells #[.slice Ao110 t1040.length co110,.int .i64 t1043,.string t1044,.int .i64 t1045] 36 (0,0)) (by (with_reducible repeat (first|apply bN|apply bd|apply bA));exact BK1050.out) hb);have n10_:=Aside0.mk (below_step (by repeat (first|(with_reducible first|exact HB.out|apply bwA|apply bwN|apply bwD|refine bwS ?_ GE978.out|refine bwS ?_ GE996.out|refine bwS ?_ GE1003.out|refine bwS ?_ GE1014.out|refine bwS ?_ GE1050.out)|exact HB.out)) hb);clear HO_13;clear HO_997000;clear HO_1004000;clear HO_1015000;clear HO_1051000;clear BK978;clear BK996;clear BK1003;clear BK1014;clear BK1050;clear HB;have HO_13:=n0_;have HO_997000:=n1_;have HO_1004000:=n2_;have HO_1015000:=n3_;have HO_1051000:=n4_;have BK978:=n5_;have BK996:=n6_;have BK1003:=n7_;have BK1014:=n8_;have BK1050:=n9_;have HB:=n10_;clear n0_ n1_ n2_ n3_ n4_ n5_ n6_ n7_ n8_ n9_ n10_;(try clear hb);(try clear hb2);(try clear hk);(try clear hi))|((with_reducible refine gate_callee (f:=79) rfl ?_);refine goesL_ (some 137) rfl rfl Try.func79 (by kernel_rfl) rfl #[.slice Ao99 t1031.length co99,.int .i64 t1053] rfl (by (try simp only [List.map_toArray,List.map_cons,List.map_nil]);first|done|rfl|(simp only [List.length_drop,List.length_take];rfl)) ?_;(with_reducible refine (laws_heldIntS.calls kj92 _ _ t1031 t1053 t1054 _ ?side1 ?side2 A135.out).mono ?_);(case side1=> repeat (first|exact (Kd.R_reads' HO_13.out).2.2|(with_reducible refine Kd.C_alloc ?_ _)|(with_reducible refine Kd.C_drewN ?_ _)|(with_reducible refine Kd.C_drew ?_)));(case side2=> exact (Kd.R_reads' HO_13.out).2.1);rintro e w' ⟨rfl,⟨nd,rfl⟩⟩;refine ⟨_,rfl,?_⟩))
                                    go_ret
                                    exact ⟨by first|rfl|(simp [errW_none,errW_some] <;> rfl)|(simp [*,errW_none,errW_some] <;> rfl),by repeat (first|(with_reducible first|exact HB.out|apply bwA|apply bwN|apply bwD|refine bwS ?_ GE978.out|refine bwS ?_ GE996.out|refine bwS ?_ GE1003.out|refine bwS ?_ GE1014.out|refine bwS ?_ GE1050.out)|exact HB.out)⟩
                                  · rw [if_neg c137] at H
                                    exact absurd H (by simp)
                      · rw [if_neg c90] at H
                        exact absurd H (by simp)
          · replace c56:=Bool.eq_false_iff.mpr c56
            subst c56
            have H1:(none)=some r:=by rw [if_neg (show ¬ (false=true) by decide)] at H;exact H
            clear H
            have H:=H1
            clear H1
            exact absurd H (by simp)
end Go.Proofs.Ytlogocmojnhpbaa.Print
