-- Packed by a program of this session (slim.py) out of printed texts; not trusted, Lean checks it.
import Derived.Test.YtlogocmojnhpbaaP0
import Derived.Test.YtlogocmojnhpbaaQFnExactAbsorbExts0
namespace Go.Proofs.Ytlogocmojnhpbaa.Print
open Go.RowKit Go.Proofs.YtlogocmojnhpbaaW.PrintWords Go.Proofs.YtlogocmojnhpbaaW.PrintLast Go.Proofs.YtlogocmojnhpbaaW.PrintMore
attribute [local go_sem] max2_int min2_int max_two min_two max_three min_three max_four min_four
set_option linter.unusedVariables false
set_option linter.unusedSimpArgs false
def impl_SourceOK.f (l0_0:List (S79)) (a0_1:Int) (a0_2:ByteArray) (a0_3:Int):Option (Bool):=if (l0_0.length:Int) ≤ 64 then ((are_Ext.f l0_0).bind fun t328=> (if t328=true then ((impl_isHash.f a0_2).bind fun t329=> (if t329=true then ((impl_in.f a0_1 0 1000000).bind fun t330=> (if t330=true then ((impl_in.f a0_3 0 1000000).bind fun t331=> (some t331)) else (some false))) else (some false))) else (some false))) else (some false)
set_option maxHeartbeats 8000000 in
set_option maxRecDepth 100000 in
theorem impl_SourceOK.calls (A0_0:Option Addr) (c0_0:Nat) (l0_0:List (S79)) (a0_1:Int) (a0_2:ByteArray) (a0_3:Int) (r:Bool) (w:World) (hr0_0:Kd.C k79 w A0_0 l0_0.length l0_0) (hc0_0:l0_0.length ≤ c0_0) (h:impl_SourceOK.f l0_0 a0_1 a0_2 a0_3=some r):
    Calls Try.prog 116 #[.agg #[.slice A0_0 l0_0.length c0_0,.int .i64 a0_1,.string a0_2,.int .i64 a0_3]] w fun e w'=> e= .returned (.bool r) ∧ Below w.heap.size w w':=by
  have hu36:=Try.underlying36
  have HR0_0:=Aside0.mk hr0_0
  have HC0_0:=Aside0.mk hc0_0
  clear hr0_0 hc0_0
  have HB:=Aside0.mk (Below.refl w.heap.size w)
  have H:(if (l0_0.length:Int) ≤ 64 then ((are_Ext.f l0_0).bind fun t328=> (if t328=true then ((impl_isHash.f a0_2).bind fun t329=> (if t329=true then ((impl_in.f a0_1 0 1000000).bind fun t330=> (if t330=true then ((impl_in.f a0_3 0 1000000).bind fun t331=> (some t331)) else (some false))) else (some false))) else (some false))) else (some false))=some r:=h
  clear h
  by_cases c2:(l0_0.length:Int) ≤ 64
  · rw [if_pos c2] at H
    have c2b0:decide ((l0_0.length:Int) ≤ 64)=true:=decide_eq_true c2
    have c2b1:decide (l0_0.length ≤ 64)=true:=decide_eq_true (by omega)
    clear c2
    replace H:=Option.bind_eq_some_iff.mp H
    obtain ⟨t328,A30,H⟩:=H
    replace H:(if t328=true then ((impl_isHash.f a0_2).bind fun t329=> (if t329=true then ((impl_in.f a0_1 0 1000000).bind fun t330=> (if t330=true then ((impl_in.f a0_3 0 1000000).bind fun t331=> (some t331)) else (some false))) else (some false))) else (some false))=some r:=H
    have A3:=Aside0.mk A30
    clear A30
    by_cases c4:t328=true
    · subst c4
      have H1:((impl_isHash.f a0_2).bind fun t329=> (if t329=true then ((impl_in.f a0_1 0 1000000).bind fun t330=> (if t330=true then ((impl_in.f a0_3 0 1000000).bind fun t331=> (some t331)) else (some false))) else (some false)))=some r:=by rw [if_pos rfl] at H;exact H
      clear H
      have H:=H1
      clear H1
      replace H:=Option.bind_eq_some_iff.mp H
      obtain ⟨t329,A50,H⟩:=H
      replace H:(if t329=true then ((impl_in.f a0_1 0 1000000).bind fun t330=> (if t330=true then ((impl_in.f a0_3 0 1000000).bind fun t331=> (some t331)) else (some false))) else (some false))=some r:=H
      have A5:=Aside0.mk A50
      clear A50
      by_cases c6:t329=true
      · subst c6
        have H1:((impl_in.f a0_1 0 1000000).bind fun t330=> (if t330=true then ((impl_in.f a0_3 0 1000000).bind fun t331=> (some t331)) else (some false)))=some r:=by rw [if_pos rfl] at H;exact H
        clear H
        have H:=H1
        clear H1
        replace H:=Option.bind_eq_some_iff.mp H
        obtain ⟨t330,A70,H⟩:=H
        replace H:(if t330=true then ((impl_in.f a0_3 0 1000000).bind fun t331=> (some t331)) else (some false))=some r:=H
        have A7:=Aside0.mk A70
        clear A70
        by_cases c8:t330=true
        · subst c8
          have H1:((impl_in.f a0_3 0 1000000).bind fun t331=> (some t331))=some r:=by rw [if_pos rfl] at H;exact H
          clear H
          have H:=H1
          clear H1
          replace H:=Option.bind_eq_some_iff.mp H
          obtain ⟨t331,A90,H⟩:=H
          replace H:(some t331)=some r:=H
          have A9:=Aside0.mk A90
          clear A90
          obtain rfl:=Option.some.inj H
          go_enter Try.func116,Try.ntmps116
          go_wp2_with (first|((with_reducible refine gate_dst (N:=1) rfl ?_);refine box_event ?hg (N:=1) ?hd (cs:= #[.slice A0_0 l0_0.length c0_0,.int .i64 a0_1,.string a0_2,.int .i64 a0_3]) (t:=36) ?hr ?_;(case hd=> rfl);(case hg=> rfl);(case hr=> first|(go_simp;done)|(go_simp;rfl));intro gb327 hg w10 hbox hb;have n0_:=Aside0.mk (below_step (by repeat (first|(with_reducible first|exact HB.out|apply below_alloc|apply pw_below_drewN|apply below_drew1)|exact HB.out)) hb);have n1_:=Aside0.mk (hbox);have n2_:=Aside0.mk ((by rw [hg];exact (below_size (by repeat (first|(with_reducible first|exact HB.out|apply below_alloc|apply pw_below_drewN|apply below_drew1)|exact HB.out))):w.heap.size ≤ gb327));have n3_:=Aside0.mk ((by rw [hg];exact (below_size (by repeat (first|(with_reducible first|exact HB.out|apply below_alloc|apply pw_below_drewN|apply below_drew1)|exact HB.out))):w.heap.size ≤ gb327));clear HB;have HB:=n0_;have BK327:=n1_;have GW327:=n2_;have GE327:=n3_;clear n0_ n1_ n2_ n3_;clear hb hbox hg;have hcz11_0:w10.cell? ⟨gb327,0,none⟩=some (.slice A0_0 l0_0.length c0_0):=(blk_cell BK327.out 0).trans rfl;have hcz11_1:w10.cell? ⟨gb327,1,none⟩=some (.int .i64 a0_1):=(blk_cell BK327.out 1).trans rfl;have hcz11_2:w10.cell? ⟨gb327,2,none⟩=some (.string a0_2):=(blk_cell BK327.out 2).trans rfl;have hcz11_3:w10.cell? ⟨gb327,3,none⟩=some (.int .i64 a0_3):=(blk_cell BK327.out 3).trans rfl;have hfz11_0:=blk_frozen BK327.out 0;have hfz11_1:=blk_frozen BK327.out 1;have hfz11_2:=blk_frozen BK327.out 2;have hfz11_3:=blk_frozen BK327.out 3)|(go_at_call 122;(with_reducible refine (are_Ext.calls _ _ l0_0 true _ ?side1 ?side2 A3.out).mono ?_);(case side1=> repeat (first|exact (Kd.C_below HR0_0.out HB.out)|(with_reducible refine Kd.C_alloc ?_ _)|(with_reducible refine Kd.C_drewN ?_ _)|(with_reducible refine Kd.C_drew ?_)));(case side2=> exact HC0_0.out);rintro e w12 ⟨rfl,hb⟩;have n0_:=Aside0.mk (blk_below (g:=gb327) (o:= .cells #[.slice A0_0 l0_0.length c0_0,.int .i64 a0_1,.string a0_2,.int .i64 a0_3] 36 (0,0)) (by (with_reducible repeat (first|apply bN|apply bd|apply bA));exact BK327.out) hb);have n1_:=Aside0.mk (below_step (by repeat (first|(with_reducible first|exact HB.out|apply below_alloc|apply pw_below_drewN|apply below_drew1|refine below_set ?_ GE327.out)|exact HB.out)) hb);clear BK327;clear HB;have BK327:=n0_;have HB:=n1_;clear n0_ n1_;(try clear hb);(try clear hb2);(try clear hk);(try clear hi);have hcz13_0:w12.cell? ⟨gb327,0,none⟩=some (.slice A0_0 l0_0.length c0_0):=(blk_cell BK327.out 0).trans rfl;have hcz13_1:w12.cell? ⟨gb327,1,none⟩=some (.int .i64 a0_1):=(blk_cell BK327.out 1).trans rfl;have hcz13_2:w12.cell? ⟨gb327,2,none⟩=some (.string a0_2):=(blk_cell BK327.out 2).trans rfl;have hcz13_3:w12.cell? ⟨gb327,3,none⟩=some (.int .i64 a0_3):=(blk_cell BK327.out 3).trans rfl;have hfz13_0:=blk_frozen BK327.out 0;have hfz13_1:=blk_frozen BK327.out 1;have hfz13_2:=blk_frozen BK327.out 2;have hfz13_3:=blk_frozen BK327.out 3)|(go_at_call 93;(with_reducible refine (impl_isHash.calls a0_2 true _ A5.out).mono ?_);rintro e w' ⟨rfl,⟨nd,rfl⟩⟩)|(go_at_call 95;(with_reducible refine (impl_in.calls a0_1 0 1000000 true _ A7.out).mono ?_);rintro e w' ⟨rfl,⟨nd,rfl⟩⟩)|(go_at_call 95;(with_reducible refine (impl_in.calls a0_3 0 1000000 t331 _ A9.out).mono ?_);rintro e w' ⟨rfl,⟨nd,rfl⟩⟩))
          go_ret
          exact ⟨by first|rfl|(simp [errW_none,errW_some] <;> rfl)|(simp [*,errW_none,errW_some] <;> rfl),by repeat (first|(with_reducible first|exact HB.out|apply below_alloc|apply pw_below_drewN|apply below_drew1|refine below_set ?_ GE327.out)|exact HB.out)⟩
        · replace c8:=Bool.eq_false_iff.mpr c8
          subst c8
          have H1:(some false)=some r:=by rw [if_neg (show ¬ (false=true) by decide)] at H;exact H
          clear H
          have H:=H1
          clear H1
          obtain rfl:=Option.some.inj H
          go_enter Try.func116,Try.ntmps116
          go_wp2_with (first|((with_reducible refine gate_dst (N:=1) rfl ?_);refine box_event ?hg (N:=1) ?hd (cs:= #[.slice A0_0 l0_0.length c0_0,.int .i64 a0_1,.string a0_2,.int .i64 a0_3]) (t:=36) ?hr ?_;(case hd=> rfl);(case hg=> rfl);(case hr=> first|(go_simp;done)|(go_simp;rfl));intro gb327 hg w14 hbox hb;have n0_:=Aside0.mk (below_step (by repeat (first|(with_reducible first|exact HB.out|apply below_alloc|apply pw_below_drewN|apply below_drew1)|exact HB.out)) hb);have n1_:=Aside0.mk (hbox);have n2_:=Aside0.mk ((by rw [hg];exact (below_size (by repeat (first|(with_reducible first|exact HB.out|apply below_alloc|apply pw_below_drewN|apply below_drew1)|exact HB.out))):w.heap.size ≤ gb327));have n3_:=Aside0.mk ((by rw [hg];exact (below_size (by repeat (first|(with_reducible first|exact HB.out|apply below_alloc|apply pw_below_drewN|apply below_drew1)|exact HB.out))):w.heap.size ≤ gb327));clear HB;have HB:=n0_;have BK327:=n1_;have GW327:=n2_;have GE327:=n3_;clear n0_ n1_ n2_ n3_;clear hb hbox hg;have hcz15_0:w14.cell? ⟨gb327,0,none⟩=some (.slice A0_0 l0_0.length c0_0):=(blk_cell BK327.out 0).trans rfl;have hcz15_1:w14.cell? ⟨gb327,1,none⟩=some (.int .i64 a0_1):=(blk_cell BK327.out 1).trans rfl;have hcz15_2:w14.cell? ⟨gb327,2,none⟩=some (.string a0_2):=(blk_cell BK327.out 2).trans rfl;have hcz15_3:w14.cell? ⟨gb327,3,none⟩=some (.int .i64 a0_3):=(blk_cell BK327.out 3).trans rfl;have hfz15_0:=blk_frozen BK327.out 0;have hfz15_1:=blk_frozen BK327.out 1;have hfz15_2:=blk_frozen BK327.out 2;have hfz15_3:=blk_frozen BK327.out 3)|(go_at_call 122;(with_reducible refine (are_Ext.calls _ _ l0_0 true _ ?side1 ?side2 A3.out).mono ?_);(case side1=> repeat (first|exact (Kd.C_below HR0_0.out HB.out)|(with_reducible refine Kd.C_alloc ?_ _)|(with_reducible refine Kd.C_drewN ?_ _)|(with_reducible refine Kd.C_drew ?_)));(case side2=> exact HC0_0.out);rintro e w16 ⟨rfl,hb⟩;have n0_:=Aside0.mk (blk_below (g:=gb327) (o:= .cells #[.slice A0_0 l0_0.length c0_0,.int .i64 a0_1,.string a0_2,.int .i64 a0_3] 36 (0,0)) (by (with_reducible repeat (first|apply bN|apply bd|apply bA));exact BK327.out) hb);have n1_:=Aside0.mk (below_step (by repeat (first|(with_reducible first|exact HB.out|apply below_alloc|apply pw_below_drewN|apply below_drew1|refine below_set ?_ GE327.out)|exact HB.out)) hb);clear BK327;clear HB;have BK327:=n0_;have HB:=n1_;clear n0_ n1_;(try clear hb);(try clear hb2);(try clear hk);(try clear hi);have hcz17_0:w16.cell? ⟨gb327,0,none⟩=some (.slice A0_0 l0_0.length c0_0):=(blk_cell BK327.out 0).trans rfl;have hcz17_1:w16.cell? ⟨gb327,1,none⟩=some (.int .i64 a0_1):=(blk_cell BK327.out 1).trans rfl;have hcz17_2:w16.cell? ⟨gb327,2,none⟩=some (.string a0_2):=(blk_cell BK327.out 2).trans rfl;have hcz17_3:w16.cell? ⟨gb327,3,none⟩=some (.int .i64 a0_3):=(blk_cell BK327.out 3).trans rfl;have hfz17_0:=blk_frozen BK327.out 0;have hfz17_1:=blk_frozen BK327.out 1;have hfz17_2:=blk_frozen BK327.out 2;have hfz17_3:=blk_frozen BK327.out 3)|(go_at_call 93;(with_reducible refine (impl_isHash.calls a0_2 true _ A5.out).mono ?_);rintro e w' ⟨rfl,⟨nd,rfl⟩⟩)|(go_at_call 95;(with_reducible refine (impl_in.calls a0_1 0 1000000 false _ A7.out).mono ?_);rintro e w' ⟨rfl,⟨nd,rfl⟩⟩))
          go_ret
          exact ⟨by first|rfl|(simp [errW_none,errW_some] <;> rfl)|(simp [*,errW_none,errW_some] <;> rfl),by repeat (first|(with_reducible first|exact HB.out|apply below_alloc|apply pw_below_drewN|apply below_drew1|refine below_set ?_ GE327.out)|exact HB.out)⟩
      · replace c6:=Bool.eq_false_iff.mpr c6
        subst c6
        have H1:(some false)=some r:=by rw [if_neg (show ¬ (false=true) by decide)] at H;exact H
        clear H
        have H:=H1
        clear H1
        obtain rfl:=Option.some.inj H
        go_enter Try.func116,Try.ntmps116
        go_wp2_with (first|((with_reducible refine gate_dst (N:=1) rfl ?_);refine box_event ?hg (N:=1) ?hd (cs:= #[.slice A0_0 l0_0.length c0_0,.int .i64 a0_1,.string a0_2,.int .i64 a0_3]) (t:=36) ?hr ?_;(case hd=> rfl);(case hg=> rfl);(case hr=> first|(go_simp;done)|(go_simp;rfl));intro gb327 hg w18 hbox hb;have n0_:=Aside0.mk (below_step (by repeat (first|(with_reducible first|exact HB.out|apply below_alloc|apply pw_below_drewN|apply below_drew1)|exact HB.out)) hb);have n1_:=Aside0.mk (hbox);have n2_:=Aside0.mk ((by rw [hg];exact (below_size (by repeat (first|(with_reducible first|exact HB.out|apply below_alloc|apply pw_below_drewN|apply below_drew1)|exact HB.out))):w.heap.size ≤ gb327));have n3_:=Aside0.mk ((by rw [hg];exact (below_size (by repeat (first|(with_reducible first|exact HB.out|apply below_alloc|apply pw_below_drewN|apply below_drew1)|exact HB.out))):w.heap.size ≤ gb327));clear HB;have HB:=n0_;have BK327:=n1_;have GW327:=n2_;have GE327:=n3_;clear n0_ n1_ n2_ n3_;clear hb hbox hg;have hcz19_0:w18.cell? ⟨gb327,0,none⟩=some (.slice A0_0 l0_0.length c0_0):=(blk_cell BK327.out 0).trans rfl;have hcz19_1:w18.cell? ⟨gb327,1,none⟩=some (.int .i64 a0_1):=(blk_cell BK327.out 1).trans rfl;have hcz19_2:w18.cell? ⟨gb327,2,none⟩=some (.string a0_2):=(blk_cell BK327.out 2).trans rfl;have hcz19_3:w18.cell? ⟨gb327,3,none⟩=some (.int .i64 a0_3):=(blk_cell BK327.out 3).trans rfl;have hfz19_0:=blk_frozen BK327.out 0;have hfz19_1:=blk_frozen BK327.out 1;have hfz19_2:=blk_frozen BK327.out 2;have hfz19_3:=blk_frozen BK327.out 3)|(go_at_call 122;(with_reducible refine (are_Ext.calls _ _ l0_0 true _ ?side1 ?side2 A3.out).mono ?_);(case side1=> repeat (first|exact (Kd.C_below HR0_0.out HB.out)|(with_reducible refine Kd.C_alloc ?_ _)|(with_reducible refine Kd.C_drewN ?_ _)|(with_reducible refine Kd.C_drew ?_)));(case side2=> exact HC0_0.out);rintro e w20 ⟨rfl,hb⟩;have n0_:=Aside0.mk (blk_below (g:=gb327) (o:= .cells #[.slice A0_0 l0_0.length c0_0,.int .i64 a0_1,.string a0_2,.int .i64 a0_3] 36 (0,0)) (by (with_reducible repeat (first|apply bN|apply bd|apply bA));exact BK327.out) hb);have n1_:=Aside0.mk (below_step (by repeat (first|(with_reducible first|exact HB.out|apply below_alloc|apply pw_below_drewN|apply below_drew1|refine below_set ?_ GE327.out)|exact HB.out)) hb);clear BK327;clear HB;have BK327:=n0_;have HB:=n1_;clear n0_ n1_;(try clear hb);(try clear hb2);(try clear hk);(try clear hi);have hcz21_0:w20.cell? ⟨gb327,0,none⟩=some (.slice A0_0 l0_0.length c0_0):=(blk_cell BK327.out 0).trans rfl;have hcz21_1:w20.cell? ⟨gb327,1,none⟩=some (.int .i64 a0_1):=(blk_cell BK327.out 1).trans rfl;have hcz21_2:w20.cell? ⟨gb327,2,none⟩=some (.string a0_2):=(blk_cell BK327.out 2).trans rfl;have hcz21_3:w20.cell? ⟨gb327,3,none⟩=some (.int .i64 a0_3):=(blk_cell BK327.out 3).trans rfl;have hfz21_0:=blk_frozen BK327.out 0;have hfz21_1:=blk_frozen BK327.out 1;have hfz21_2:=blk_frozen BK327.out 2;have hfz21_3:=blk_frozen BK327.out 3)|(go_at_call 93;(with_reducible refine (impl_isHash.calls a0_2 false _ A5.out).mono ?_);rintro e w' ⟨rfl,⟨nd,rfl⟩⟩))
        go_ret
        exact ⟨by first|rfl|(simp [errW_none,errW_some] <;> rfl)|(simp [*,errW_none,errW_some] <;> rfl),by repeat (first|(with_reducible first|exact HB.out|apply below_alloc|apply pw_below_drewN|apply below_drew1|refine below_set ?_ GE327.out)|exact HB.out)⟩
    · replace c4:=Bool.eq_false_iff.mpr c4
      subst c4
      have H1:(some false)=some r:=by rw [if_neg (show ¬ (false=true) by decide)] at H;exact H
      clear H
      have H:=H1
      clear H1
      obtain rfl:=Option.some.inj H
      go_enter Try.func116,Try.ntmps116
      go_wp2_with (first|((with_reducible refine gate_dst (N:=1) rfl ?_);refine box_event ?hg (N:=1) ?hd (cs:= #[.slice A0_0 l0_0.length c0_0,.int .i64 a0_1,.string a0_2,.int .i64 a0_3]) (t:=36) ?hr ?_;(case hd=> rfl);(case hg=> rfl);(case hr=> first|(go_simp;done)|(go_simp;rfl));intro gb327 hg w22 hbox hb;have n0_:=Aside0.mk (below_step (by repeat (first|(with_reducible first|exact HB.out|apply below_alloc|apply pw_below_drewN|apply below_drew1)|exact HB.out)) hb);have n1_:=Aside0.mk (hbox);have n2_:=Aside0.mk ((by rw [hg];exact (below_size (by repeat (first|(with_reducible first|exact HB.out|apply below_alloc|apply pw_below_drewN|apply below_drew1)|exact HB.out))):w.heap.size ≤ gb327));have n3_:=Aside0.mk ((by rw [hg];exact (below_size (by repeat (first|(with_reducible first|exact HB.out|apply below_alloc|apply pw_below_drewN|apply below_drew1)|exact HB.out))):w.heap.size ≤ gb327));clear HB;have HB:=n0_;have BK327:=n1_;have GW327:=n2_;have GE327:=n3_;clear n0_ n1_ n2_ n3_;clear hb hbox hg;have hcz23_0:w22.cell? ⟨gb327,0,none⟩=some (.slice A0_0 l0_0.length c0_0):=(blk_cell BK327.out 0).trans rfl;have hcz23_1:w22.cell? ⟨gb327,1,none⟩=some (.int .i64 a0_1):=(blk_cell BK327.out 1).trans rfl;have hcz23_2:w22.cell? ⟨gb327,2,none⟩=some (.string a0_2):=(blk_cell BK327.out 2).trans rfl;have hcz23_3:w22.cell? ⟨gb327,3,none⟩=some (.int .i64 a0_3):=(blk_cell BK327.out 3).trans rfl;have hfz23_0:=blk_frozen BK327.out 0;have hfz23_1:=blk_frozen BK327.out 1;have hfz23_2:=blk_frozen BK327.out 2;have hfz23_3:=blk_frozen BK327.out 3)|(go_at_call 122;(with_reducible refine (are_Ext.calls _ _ l0_0 false _ ?side1 ?side2 A3.out).mono ?_);(case side1=> repeat (first|exact (Kd.C_below HR0_0.out HB.out)|(with_reducible refine Kd.C_alloc ?_ _)|(with_reducible refine Kd.C_drewN ?_ _)|(with_reducible refine Kd.C_drew ?_)));(case side2=> exact HC0_0.out);rintro e w24 ⟨rfl,hb⟩;have n0_:=Aside0.mk (blk_below (g:=gb327) (o:= .cells #[.slice A0_0 l0_0.length c0_0,.int .i64 a0_1,.string a0_2,.int .i64 a0_3] 36 (0,0)) (by (with_reducible repeat (first|apply bN|apply bd|apply bA));exact BK327.out) hb);have n1_:=Aside0.mk (below_step (by repeat (first|(with_reducible first|exact HB.out|apply below_alloc|apply pw_below_drewN|apply below_drew1|refine below_set ?_ GE327.out)|exact HB.out)) hb);clear BK327;clear HB;have BK327:=n0_;have HB:=n1_;clear n0_ n1_;(try clear hb);(try clear hb2);(try clear hk);(try clear hi)))
      go_ret
      exact ⟨by first|rfl|(simp [errW_none,errW_some] <;> rfl)|(simp [*,errW_none,errW_some] <;> rfl),by repeat (first|(with_reducible first|exact HB.out|apply below_alloc|apply pw_below_drewN|apply below_drew1|refine below_set ?_ GE327.out)|exact HB.out)⟩
  · rw [if_neg c2] at H
    have c2b0:decide ((l0_0.length:Int) ≤ 64)=false:=decide_eq_false c2
    have c2b1:decide (l0_0.length ≤ 64)=false:=decide_eq_false (by omega)
    clear c2
    obtain rfl:=Option.some.inj H
    go_enter Try.func116,Try.ntmps116
    go_wp2_with (first|((with_reducible refine gate_dst (N:=1) rfl ?_);refine box_event ?hg (N:=1) ?hd (cs:= #[.slice A0_0 l0_0.length c0_0,.int .i64 a0_1,.string a0_2,.int .i64 a0_3]) (t:=36) ?hr ?_;(case hd=> rfl);(case hg=> rfl);(case hr=> first|(go_simp;done)|(go_simp;rfl));intro gb327 hg w25 hbox hb;have n0_:=Aside0.mk (below_step (by repeat (first|(with_reducible first|exact HB.out|apply below_alloc|apply pw_below_drewN|apply below_drew1)|exact HB.out)) hb);have n1_:=Aside0.mk (hbox);have n2_:=Aside0.mk ((by rw [hg];exact (below_size (by repeat (first|(with_reducible first|exact HB.out|apply below_alloc|apply pw_below_drewN|apply below_drew1)|exact HB.out))):w.heap.size ≤ gb327));have n3_:=Aside0.mk ((by rw [hg];exact (below_size (by repeat (first|(with_reducible first|exact HB.out|apply below_alloc|apply pw_below_drewN|apply below_drew1)|exact HB.out))):w.heap.size ≤ gb327));clear HB;have HB:=n0_;have BK327:=n1_;have GW327:=n2_;have GE327:=n3_;clear n0_ n1_ n2_ n3_;clear hb hbox hg;have hcz26_0:w25.cell? ⟨gb327,0,none⟩=some (.slice A0_0 l0_0.length c0_0):=(blk_cell BK327.out 0).trans rfl;have hcz26_1:w25.cell? ⟨gb327,1,none⟩=some (.int .i64 a0_1):=(blk_cell BK327.out 1).trans rfl;have hcz26_2:w25.cell? ⟨gb327,2,none⟩=some (.string a0_2):=(blk_cell BK327.out 2).trans rfl;have hcz26_3:w25.cell? ⟨gb327,3,none⟩=some (.int .i64 a0_3):=(blk_cell BK327.out 3).trans rfl;have hfz26_0:=blk_frozen BK327.out 0;have hfz26_1:=blk_frozen BK327.out 1;have hfz26_2:=blk_frozen BK327.out 2;have hfz26_3:=blk_frozen BK327.out 3))
    go_ret
    exact ⟨by first|rfl|(simp [errW_none,errW_some] <;> rfl)|(simp [*,errW_none,errW_some] <;> rfl),by repeat (first|(with_reducible first|exact HB.out|apply below_alloc|apply pw_below_drewN|apply below_drew1|refine below_set ?_ GE327.out)|exact HB.out)⟩
def impl_isLong.f (a0:ByteArray):Option (Bool):=some (decide ((a0.size:Int) > 65536))
set_option maxHeartbeats 8000000 in
set_option maxRecDepth 100000 in
theorem impl_isLong.calls (a0:ByteArray) (r:Bool) (w:World) (h:impl_isLong.f a0=some r):
    Calls Try.prog 83 #[.string a0] w fun e w'=> e= .returned (.bool r) ∧ Drawn0 w w':=by
  have H:(some (decide ((a0.size:Int) > 65536)))=some r:=h
  clear h
  obtain rfl:=Option.some.inj H
  go_enter Try.func83,Try.ntmps83
  go_wp2
  go_ret
  exact ⟨by first|rfl|(simp;done)|(simp [*];done),by repeat (first|exact Drawn0.refl _|apply Drawn0.step)⟩
end Go.Proofs.Ytlogocmojnhpbaa.Print
namespace Go.Proofs.Ytlogocmojnhpbaa.Print
open Go Go.RowKit Go.Proofs.YtlogocmojnhpbaaW.PrintWords Go.Proofs.YtlogocmojnhpbaaW.PrintLast
set_option linter.unusedVariables false
set_option linter.unusedSimpArgs false
def impl_AbsorbText.f (l0_0:List (S79)) (a0_1:Int) (a0_2:ByteArray) (a0_3:Int) (a1:ByteArray):Option ((List (S79)) × Int × ByteArray × Int × Int):=
  if (a1.size:Int) > 65536 then some ([],0,⟨#[]⟩,0,2) else (impl_SourceOK.f l0_0 a0_1 a0_2 a0_3).bind fun ok=> if ok=true then (if a0_2.size ≤ 1000000 ∧ l0_0.length ≤ 1000000 then some (l0_0,a0_1,absorbH a0_2 (bytesOf a1),0,0) else none) else some ([],0,⟨#[]⟩,0,1)
set_option maxHeartbeats 1000000 in
set_option maxRecDepth 100000 in
theorem impl_AbsorbText.ok (A0_0:Option Addr) (c0_0:Nat) (l0_0:List (S79)) (a0_1:Int) (a0_2:ByteArray) (a0_3:Int) (a1:ByteArray) (w:World) (hr0_0:Kd.C k79 w A0_0 l0_0.length l0_0) (hc0_0:l0_0.length ≤ c0_0) (h1:¬ (a1.size:Int) > 65536) (h2:impl_SourceOK.f l0_0 a0_1 a0_2 a0_3=some true) (h3:a0_2.size ≤ 1000000) (h4:l0_0.length ≤ 1000000):
    Calls Try.prog 66 #[.agg #[.slice A0_0 l0_0.length c0_0,.int .i64 a0_1,.string a0_2,.int .i64 a0_3],.string a1] w fun e w'=> ∃ v0_:Value,e= .returned (.tuple #[.agg #[v0_,.int .i64 a0_1,.string (absorbH a0_2 (bytesOf a1)),.int .i64 0],.int .i64 0]) ∧ Kd.R k79 79 w' w.heap.size (fun _=> True) v0_ l0_0 ∧ Below w.heap.size w w':=by
  have hsz:a1.size ≤ 9223372036854775807:=by omega
  have hsm:(bytesOf a1).length ≤ 140737480000000:=by rw [bytesOf_length];omega
  have hcv:=fun W=> print_bytes (P:=Try.prog) 9 25 5 Try.underlying9 Try.underlying25 Try.underlying5 a1 W
  have hu36:=Try.underlying36
  have HR:=Aside0.mk hr0_0
  have HC:=Aside0.mk hc0_0
  have H2:=Aside0.mk h2
  have H1:=Aside0.mk (show impl_isLong.f a1=some false by unfold impl_isLong.f;simp;omega)
  have HCP:=Aside0.mk (show impl_Source_copied.f l0_0 a0_1 a0_2 a0_3=some (l0_0,a0_1,a0_2,a0_3) by unfold impl_Source_copied.f slices_Clone.f;rw [if_pos h4];rfl)
  obtain ⟨R,hR⟩:∃ R,R=absorbH a0_2 (bytesOf a1):=⟨_,rfl⟩
  rw [← hR]
  have HRR:=Aside0.mk hR
  have HS:=Aside0.mk h3
  have HB0:=Aside0.mk (Below.refl w.heap.size w)
  clear hr0_0 hc0_0 h1 h2 h3 h4 hR
  go_enter Try.func66,Try.ntmps66
  go_wp2_with (first
    |((with_reducible refine gate_dst (N:=2) rfl ?_);refine box_event ?hg (N:=2) ?hd (cs:= #[.slice A0_0 l0_0.length c0_0,.int .i64 a0_1,.string a0_2,.int .i64 a0_3]) (t:=36) ?hr ?_;(case hd=> rfl);(case hg=> rfl);(case hr=> first|(go_simp;done)|(go_simp;rfl));intro g1 hg1 w1 hbox1 hb1)
    |((with_reducible refine gate_dst (N:=4) rfl ?_);refine box_event ?hg (N:=4) ?hd (cs:= #[.slice none 0 0,.int .i64 0,.string (⟨#[]⟩:ByteArray),.int .i64 0]) (t:=36) ?hr ?_;(case hd=> rfl);(case hg=> rfl);(case hr=> first|(go_simp;done)|(go_simp;rfl));intro g2 hg2 w2 hbox2 hb2;have LD:Aside0 (Led w w2 g1 g2 (.slice A0_0 l0_0.length c0_0) a0_1 a0_2 a0_3):=⟨⟨SrcBlk.below hbox1 hb2,hbox2,below_step hb1 hb2,by omega,by have:=hb1.size;omega,by have:=blk_lt hbox1;omega⟩⟩;clear hbox1 hbox2 hb1 hb2 hg1 hg2)
    |(go_at_call 83;refine (impl_isLong.calls a1 _ _ H1.out).mono ?_;rintro e w3 ⟨rfl,hd3⟩;have LD3:=Aside0.mk (LD.out.below hd3.below);clear hd3 LD;have q0:=LD3.out.b1.cell0;have q1:=LD3.out.b1.cell1;have q2:=LD3.out.b1.cell2;have q3:=LD3.out.b1.cell3)
    |(go_at_call 116;refine (impl_SourceOK.calls A0_0 c0_0 l0_0 a0_1 a0_2 a0_3 _ _ (Kd.C_below HR.out LD3.out.hb) HC.out H2.out).mono ?_;rintro e w4 ⟨rfl,hd4⟩;have LD4:=Aside0.mk (LD3.out.below hd4);clear hd4 LD3 q0 q1 q2 q3;have q0:=LD4.out.b1.cell0;have q1:=LD4.out.b1.cell1;have q2:=LD4.out.b1.cell2;have q3:=LD4.out.b1.cell3)
    |(go_at_call 127;refine (impl_Source_copied.calls A0_0 c0_0 l0_0 a0_1 a0_2 a0_3 _ _ _ _ _ (Kd.C_below HR.out LD4.out.hb) HC.out HCP.out).mono ?_;rintro e w5 ⟨v5,rfl,hR5,hb5⟩;have HW4:=Aside0.mk LD4.out.hb.size;have LD5:=Aside0.mk (LD4.out.below hb5);have HR5:=Aside0.mk hR5;clear hb5 hR5 LD4 q0 q1 q2 q3;obtain ⟨Ao,co,eo⟩:=Kd.R_slice HR5.out;subst eo)
    |((with_reducible refine gate_dst (N:=6) rfl ?_);refine box_event ?hg (N:=6) ?hd (cs:= #[.slice none 0 0,.int .i64 0,.string (⟨#[]⟩:ByteArray),.int .i64 0]) (t:=36) ?hr ?_;(case hd=> rfl);(case hg=> rfl);(case hr=> first|(go_simp;done)|(go_simp;rfl));intro g3 hg3 w6 hbox3 hb6;have HO:=Aside0.mk (Outg.start LD5.out HR5.out HW4.out hg3 hbox3 hb6);have q0:=SrcBlk.cell0 hbox3;have q1:=SrcBlk.cell1 hbox3;have q2:=SrcBlk.cell2 hbox3;have q3:=SrcBlk.cell3 hbox3;have z0:=SrcBlk.frozen hbox3 0;have z1:=SrcBlk.frozen hbox3 1;have z2:=SrcBlk.frozen hbox3 2;have z3:=SrcBlk.frozen hbox3 3;have HG3:=Aside0.mk (show w6.heap.size ≠ g3 from fun e=> by have:=SrcBlk.lt hbox3;omega);clear hbox3 hb6 hg3 LD5 HR5 HW4)
    |(go_at_call 128;(with_reducible refine (absorbN.calls g3 (.slice Ao l0_0.length co) a0_1 a0_3 a0_2 _ _ (bytesOf a1) a1.size _ (bytesOf_length a1).symm ?l1 ?l2 (bytesOf_in a1) HS.out hsm).mono ?_);(case l1=> exact HO.out.b3.bytes 5 a1);(case l2=> exact PRowB.bytesAt _ a1 (by simp) hsz HG3.out);rintro e w8 ⟨rfl,hS8,hM8⟩;rw [← HRR.out] at hS8;have HO8:=Aside0.mk ((HO.out.below (bytes_below (Below.refl _ _) (Nat.le_refl _) 5 a1)).moved hM8 hS8);clear hM8 hS8 HO q0 q1 q2 q3 z0 z1 z2 z3;have q0:=HO8.out.b3.cell0;have q1:=HO8.out.b3.cell1;have q2:=HO8.out.b3.cell2;have q3:=HO8.out.b3.cell3;have p0:=HO8.out.b2.cell0;have p1:=HO8.out.b2.cell1;have p2:=HO8.out.b2.cell2;have p3:=HO8.out.b2.cell3;have z0:=HO8.out.b2.frozen 0;have z1:=HO8.out.b2.frozen 1;have z2:=HO8.out.b2.frozen 2;have z3:=HO8.out.b2.frozen 3))
  have HD:=HO8.out.done a0_1 0 R
  refine bodyPost_ret (results_ct rfl _ _ g2 36 #[.slice Ao l0_0.length co,.int .i64 a0_1,.string R,.int .i64 0] (0,0) _ rfl HD.1 Try.underlying36 rfl (by kernel_rfl)) rfl ?_
  exact ⟨_,rfl,HD.2.1,HD.2.2⟩
set_option maxHeartbeats 1000000 in
set_option maxRecDepth 100000 in
theorem impl_AbsorbText.long (A0_0:Option Addr) (c0_0:Nat) (l0_0:List (S79)) (a0_1:Int) (a0_2:ByteArray) (a0_3:Int) (a1:ByteArray) (w:World) (hr0_0:Kd.C k79 w A0_0 l0_0.length l0_0) (hc0_0:l0_0.length ≤ c0_0) (h1:(a1.size:Int) > 65536):
    Calls Try.prog 66 #[.agg #[.slice A0_0 l0_0.length c0_0,.int .i64 a0_1,.string a0_2,.int .i64 a0_3],.string a1] w fun e w'=> ∃ v0_:Value,e= .returned (.tuple #[.agg #[v0_,.int .i64 0,.string ⟨#[]⟩,.int .i64 0],.int .i64 2]) ∧ Kd.R k79 79 w' w.heap.size (fun _=> True) v0_ [] ∧ Below w.heap.size w w':=by
  have hu36:=Try.underlying36
  have HR:=Aside0.mk hr0_0
  have HC:=Aside0.mk hc0_0
  have H1:=Aside0.mk (show impl_isLong.f a1=some true by unfold impl_isLong.f;simp;omega)
  clear h1
  clear hr0_0 hc0_0
  go_enter Try.func66,Try.ntmps66
  go_wp2_with (first
    |((with_reducible refine gate_dst (N:=2) rfl ?_);refine box_event ?hg (N:=2) ?hd (cs:= #[.slice A0_0 l0_0.length c0_0,.int .i64 a0_1,.string a0_2,.int .i64 a0_3]) (t:=36) ?hr ?_;(case hd=> rfl);(case hg=> rfl);(case hr=> first|(go_simp;done)|(go_simp;rfl));intro g1 hg1 w1 hbox1 hb1)
    |((with_reducible refine gate_dst (N:=4) rfl ?_);refine box_event ?hg (N:=4) ?hd (cs:= #[.slice none 0 0,.int .i64 0,.string (⟨#[]⟩:ByteArray),.int .i64 0]) (t:=36) ?hr ?_;(case hd=> rfl);(case hg=> rfl);(case hr=> first|(go_simp;done)|(go_simp;rfl));intro g2 hg2 w2 hbox2 hb2;have LD:Aside0 (Led w w2 g1 g2 (.slice A0_0 l0_0.length c0_0) a0_1 a0_2 a0_3):=⟨⟨SrcBlk.below hbox1 hb2,hbox2,below_step hb1 hb2,by omega,by have:=hb1.size;omega,by have:=blk_lt hbox1;omega⟩⟩;clear hbox1 hbox2 hb1 hb2 hg1 hg2)
    |(go_at_call 83;refine (impl_isLong.calls a1 _ _ H1.out).mono ?_;rintro e w3 ⟨rfl,hd3⟩;have LD3:=Aside0.mk (LD.out.below hd3.below);clear hd3 LD;have LDZ:=LD3;have p0:=LDZ.out.b2.cell0;have p1:=LDZ.out.b2.cell1;have p2:=LDZ.out.b2.cell2;have p3:=LDZ.out.b2.cell3;have z0:=LDZ.out.b2.frozen 0;have z1:=LDZ.out.b2.frozen 1;have z2:=LDZ.out.b2.frozen 2;have z3:=LDZ.out.b2.frozen 3))
  refine bodyPost_ret (results_ct rfl _ _ g2 36 #[.slice none 0 0,.int .i64 0,.string (⟨#[]⟩:ByteArray),.int .i64 0] (0,0) _ rfl (LDZ.out.b2.setAll (.slice none 0 0) 0 0 ⟨#[]⟩) Try.underlying36 rfl (by kernel_rfl)) rfl ?_
  exact ⟨_,rfl,Kd.R_nil _ _ _ _ _,below_setAll LDZ.out.hb LDZ.out.h2 _ _ _ _⟩
set_option maxHeartbeats 1000000 in
set_option maxRecDepth 100000 in
theorem impl_AbsorbText.bad (A0_0:Option Addr) (c0_0:Nat) (l0_0:List (S79)) (a0_1:Int) (a0_2:ByteArray) (a0_3:Int) (a1:ByteArray) (w:World) (hr0_0:Kd.C k79 w A0_0 l0_0.length l0_0) (hc0_0:l0_0.length ≤ c0_0) (h1:¬ (a1.size:Int) > 65536) (h2:impl_SourceOK.f l0_0 a0_1 a0_2 a0_3=some false):
    Calls Try.prog 66 #[.agg #[.slice A0_0 l0_0.length c0_0,.int .i64 a0_1,.string a0_2,.int .i64 a0_3],.string a1] w fun e w'=> ∃ v0_:Value,e= .returned (.tuple #[.agg #[v0_,.int .i64 0,.string ⟨#[]⟩,.int .i64 0],.int .i64 1]) ∧ Kd.R k79 79 w' w.heap.size (fun _=> True) v0_ [] ∧ Below w.heap.size w w':=by
  have hu36:=Try.underlying36
  have HR:=Aside0.mk hr0_0
  have HC:=Aside0.mk hc0_0
  have H1:=Aside0.mk (show impl_isLong.f a1=some false by unfold impl_isLong.f;simp;omega)
  have H2:=Aside0.mk h2
  clear h1 h2
  clear hr0_0 hc0_0
  go_enter Try.func66,Try.ntmps66
  go_wp2_with (first
    |((with_reducible refine gate_dst (N:=2) rfl ?_);refine box_event ?hg (N:=2) ?hd (cs:= #[.slice A0_0 l0_0.length c0_0,.int .i64 a0_1,.string a0_2,.int .i64 a0_3]) (t:=36) ?hr ?_;(case hd=> rfl);(case hg=> rfl);(case hr=> first|(go_simp;done)|(go_simp;rfl));intro g1 hg1 w1 hbox1 hb1)
    |((with_reducible refine gate_dst (N:=4) rfl ?_);refine box_event ?hg (N:=4) ?hd (cs:= #[.slice none 0 0,.int .i64 0,.string (⟨#[]⟩:ByteArray),.int .i64 0]) (t:=36) ?hr ?_;(case hd=> rfl);(case hg=> rfl);(case hr=> first|(go_simp;done)|(go_simp;rfl));intro g2 hg2 w2 hbox2 hb2;have LD:Aside0 (Led w w2 g1 g2 (.slice A0_0 l0_0.length c0_0) a0_1 a0_2 a0_3):=⟨⟨SrcBlk.below hbox1 hb2,hbox2,below_step hb1 hb2,by omega,by have:=hb1.size;omega,by have:=blk_lt hbox1;omega⟩⟩;clear hbox1 hbox2 hb1 hb2 hg1 hg2)
    |(go_at_call 83;refine (impl_isLong.calls a1 _ _ H1.out).mono ?_;rintro e w3 ⟨rfl,hd3⟩;have LD3:=Aside0.mk (LD.out.below hd3.below);clear hd3 LD;have q0:=LD3.out.b1.cell0;have q1:=LD3.out.b1.cell1;have q2:=LD3.out.b1.cell2;have q3:=LD3.out.b1.cell3)
    |(go_at_call 116;refine (impl_SourceOK.calls A0_0 c0_0 l0_0 a0_1 a0_2 a0_3 _ _ (Kd.C_below HR.out LD3.out.hb) HC.out H2.out).mono ?_;rintro e w4 ⟨rfl,hd4⟩;have LDZ:=Aside0.mk (LD3.out.below hd4);clear hd4 LD3 q0 q1 q2 q3;have p0:=LDZ.out.b2.cell0;have p1:=LDZ.out.b2.cell1;have p2:=LDZ.out.b2.cell2;have p3:=LDZ.out.b2.cell3;have z0:=LDZ.out.b2.frozen 0;have z1:=LDZ.out.b2.frozen 1;have z2:=LDZ.out.b2.frozen 2;have z3:=LDZ.out.b2.frozen 3))
  refine bodyPost_ret (results_ct rfl _ _ g2 36 #[.slice none 0 0,.int .i64 0,.string (⟨#[]⟩:ByteArray),.int .i64 0] (0,0) _ rfl (LDZ.out.b2.setAll (.slice none 0 0) 0 0 ⟨#[]⟩) Try.underlying36 rfl (by kernel_rfl)) rfl ?_
  exact ⟨_,rfl,Kd.R_nil _ _ _ _ _,below_setAll LDZ.out.hb LDZ.out.h2 _ _ _ _⟩
theorem impl_AbsorbText.calls (A0_0:Option Addr) (c0_0:Nat) (l0_0:List (S79)) (a0_1:Int) (a0_2:ByteArray) (a0_3:Int) (a1:ByteArray) (r1:List (S79)) (r2:Int) (r3:ByteArray) (r4:Int) (r5:Int) (w:World) (hr0_0:Kd.C k79 w A0_0 l0_0.length l0_0) (hc0_0:l0_0.length ≤ c0_0) (h:impl_AbsorbText.f l0_0 a0_1 a0_2 a0_3 a1=some (r1,r2,r3,r4,r5)):
    Calls Try.prog 66 #[.agg #[.slice A0_0 l0_0.length c0_0,.int .i64 a0_1,.string a0_2,.int .i64 a0_3],.string a1] w fun e w'=> ∃ v0_:Value,e= .returned (.tuple #[.agg #[v0_,.int .i64 r2,.string r3,.int .i64 r4],.int .i64 r5]) ∧ Kd.R k79 79 w' w.heap.size (fun _=> True) v0_ r1 ∧ Below w.heap.size w w':=by
  unfold impl_AbsorbText.f at h
  split at h
  · next h1=>
    simp only [Option.some.injEq,Prod.mk.injEq] at h
    obtain ⟨rfl,rfl,rfl,rfl,rfl⟩:=h
    exact impl_AbsorbText.long A0_0 c0_0 l0_0 a0_1 a0_2 a0_3 a1 w hr0_0 hc0_0 h1
  · next h1=>
    obtain ⟨ok,h2,h⟩:=Option.bind_eq_some_iff.mp h
    cases ok with
    |true=>
      rw [if_pos rfl] at h
      split at h
      · next h3=>
        simp only [Option.some.injEq,Prod.mk.injEq] at h
        obtain ⟨rfl,rfl,rfl,rfl,rfl⟩:=h
        exact impl_AbsorbText.ok A0_0 c0_0 l0_0 a0_1 a0_2 a0_3 a1 w hr0_0 hc0_0 h1 h2 h3.1 h3.2
      · cases h
    |false=>
      rw [if_neg (by decide)] at h
      simp only [Option.some.injEq,Prod.mk.injEq] at h
      obtain ⟨rfl,rfl,rfl,rfl,rfl⟩:=h
      exact impl_AbsorbText.bad A0_0 c0_0 l0_0 a0_1 a0_2 a0_3 a1 w hr0_0 hc0_0 h1 h2
end Go.Proofs.Ytlogocmojnhpbaa.Print
namespace Go.Proofs.Ytlogocmojnhpbaa.Print
open Go.RowKit Go.Proofs.YtlogocmojnhpbaaW.PrintWords Go.Proofs.YtlogocmojnhpbaaW.PrintLast Go.Proofs.YtlogocmojnhpbaaW.PrintMore
attribute [local go_sem] max2_int min2_int max_two min_two max_three min_three max_four min_four
set_option linter.unusedVariables false
set_option linter.unusedSimpArgs false
def impl_extBytes.l0:Nat → List Int → List (S79) → Int → Int → Option (List Int)
  |0,_,_,_,_=> none
  |k + 1,x3,x7,x8,x9=> if x9 < x8 then (if 0 ≤ x9 then (if x9 < (x7.length:Int) then ((impl_four.f x3 ((rd_T79 x7 x9).f0)).bind fun t548=> ((impl_four.f t548 ((rd_T79 x7 x9).f1)).bind fun t551=> (impl_extBytes.l0 k t551 x7 x8 (wrap64 (x9 + 1))))) else (none)) else (none)) else (some x3)
def impl_extBytes.f (k:Nat) (l0:List (S79)):Option (List Int):=impl_extBytes.l0 k (([]:List Int)) l0 (l0.length:Int) 0
theorem impl_extBytes.mono_l:∀ k,(∀ y0 y1 y2 y3,LeO (impl_extBytes.l0 k y0 y1 y2 y3) (impl_extBytes.l0 (k + 1) y0 y1 y2 y3))
  |0=> fun _ _ _ _ r h=> by simp [impl_extBytes.l0] at h
  |k + 1=> by
    have ih0:=impl_extBytes.mono_l k
    · intro y0 y1 y2 y3
      unfold impl_extBytes.l0
      repeat' first
      |(with_reducible exact ih0 _ _ _ _)
      |(with_reducible exact LeO.refl _)
      |(with_reducible exact LeO.none _)
      |(with_reducible refine LeO.ite ?_ ?_)
      |(with_reducible refine LeO.bind ?_ (fun _=> ?_))
      |exact ih0 _ _ _ _
      |exact LeO.none _
      |refine LeO.ite ?_ ?_
      |refine LeO.bind ?_ (fun _=> ?_)
theorem impl_extBytes.mono:∀ a0 k,LeO (impl_extBytes.f k a0) (impl_extBytes.f (k + 1) a0):=by
  intro a0 k
  have ih0:=impl_extBytes.mono_l k
  unfold impl_extBytes.f
  repeat' first
      |(with_reducible exact ih0 _ _ _ _)
      |(with_reducible exact LeO.refl _)
      |(with_reducible exact LeO.none _)
      |(with_reducible refine LeO.ite ?_ ?_)
      |(with_reducible refine LeO.bind ?_ (fun _=> ?_))
      |exact ih0 _ _ _ _
      |exact LeO.none _
      |refine LeO.ite ?_ ?_
      |refine LeO.bind ?_ (fun _=> ?_)
def impl_extBytes.T5:Bool × List (List Nat × List Nat):=(true, [([], []),([], []),([1], [1]),([0,2], [0,2]),([], []),([4], [4]),([3,5,3], [3,5]),([6,6,0,1,2,3,4,5,6], [0,6])])
def impl_extBytes.B5:List Nat:= [0,0,2,7,0,16,63,127]
theorem impl_extBytes.tab5:rtab .any (opsOf Try.f156 5)=impl_extBytes.T5:=by kernel_rfl
theorem impl_extBytes.bits5:waitsOk impl_extBytes.T5.2 impl_extBytes.B5=true:=by kernel_rfl
set_option maxHeartbeats 8000000 in
set_option maxRecDepth 100000 in
theorem impl_extBytes.calls (k:Nat) (A0:Option Addr) (c0:Nat) (l0:List (S79)) (r:List Int) (w:World) (hr0:Kd.C k79 w A0 l0.length l0) (hc0:l0.length ≤ c0) (h:impl_extBytes.f k l0=some r):
    Calls Try.prog 156 #[.slice A0 l0.length c0] w fun e w'=> ∃ v0_:Value,e= .returned (v0_) ∧ Kd.R (Kd.int .u8) 5 w' w.heap.size (fun _=> True) v0_ r ∧ Below w.heap.size w w':=by
  have hu79:=Try.underlying79
  have HR0:=Aside0.mk hr0
  have HC0:=Aside0.mk hc0
  clear hr0 hc0
  have HB:=Aside0.mk (Below.refl w.heap.size w)
  have H:(impl_extBytes.l0 k (([]:List Int)) l0 (l0.length:Int) 0)=some r:=h
  clear h
  obtain ⟨y543,hy543⟩:∃ y_:List Int,y_=(([]:List Int)):=⟨_,rfl⟩
  replace H:(impl_extBytes.l0 k y543 l0 (l0.length:Int) 0)=some r:=by first|(rw [hy543];with_reducible exact H)|(have H2_:=(Option.bind_some _ _).symm.trans H;rw [hy543];with_reducible exact H2_)|(have H2_:=(Option.bind_some _ _).symm.trans H;with_reducible exact H2_)|with_reducible exact H|(rw [hy543];exact H)|exact H
  have Ny543:=Aside0.mk hy543
  clear hy543
  have H':=Aside0.mk H
  clear H
  go_enter Try.func156,Try.ntmps156
  go_wp2_with (first|((with_reducible refine gate_dst (N:=6) rfl ?_);refine Kd.R_lit (Kd.int .u8) _ 5 ?hg (N:=6) ?hd (xs:=([]:List Int)) (inner:= []) (ok:=fun _=> True) (okp:=fun _=> True) ?hr ?hp (fun _ hk=> hk) trivial (Below.refl _ _) (Nat.le_refl _) (by simp) ?_;(case hd=> rfl);(case hg=> rfl);(case hr=> first|(go_simp;done)|(go_simp;rfl));(case hp=> exact (Reps.none _ _));intro v544 w2 ho3 hb hg_ hnew_;clear hg_ hnew_;(first|rw [← Ny543.out] at ho3|(simp only [Int.reduceToNat] at ho3;rw [← Ny543.out] at ho3));have n0_:=Aside0.mk (Kd.R_lower ho3 (below_size (by repeat (first|(with_reducible first|exact HB.out|apply below_alloc|apply pw_below_drewN|apply below_drew1)|exact HB.out))));have n1_:=Aside0.mk (below_step (by repeat (first|(with_reducible first|exact HB.out|apply below_alloc|apply pw_below_drewN|apply below_drew1)|exact HB.out)) hb);clear HB;have HO545:=n0_;have HB:=n1_;clear n0_ n1_;clear hb ho3))
  go_loopg [3,9] k (fun kq v3 v9 w'=> ∃ (x3_1:List Int) (x9_1:Int),v9= .int .i64 x9_1 ∧ Aside0 (impl_extBytes.l0 kq x3_1 l0 (l0.length:Int) x9_1=some r) ∧ Aside0 (kq ≤ k) ∧ Aside0 (Kd.R (Kd.int .u8) 5 w' w.heap.size (fun _=> True) v3 x3_1) ∧ Aside0 (Below w.heap.size w w'))
  case atStart=> exact ⟨(y543),(0),(by first|rfl|(simp;done)|(simp [*];done)),H',⟨Nat.le_refl _⟩,⟨by (with_reducible repeat (first|apply Kd.R_alloc|apply Kd.R_drewN|apply Kd.R_drew));exact HO545.out⟩,⟨by repeat (first|(with_reducible first|exact HB.out|apply below_alloc|apply pw_below_drewN|apply below_drew1)|exact HB.out)⟩⟩
  case round=>
    clear H'
    try clear c1
    try clear p2
    obtain ⟨x3_1,x9_1,rfl,HA,HK1,HO_3,HB⟩:=hrel
    cases gk with
    |zero=> exact absurd HA.out (by simp [impl_extBytes.l0])
    |succ k1=>
      have H:=HA.out
      clear HA
      simp only [impl_extBytes.l0] at H
      by_cases c4:x9_1 < (l0.length:Int)
      · rw [if_pos c4] at H
        have c4b0:decide (x9_1 < (l0.length:Int))=true:=decide_eq_true c4
        clear c4
        by_cases c5:0 ≤ x9_1
        · rw [if_pos c5] at H
          have c5b0:decide (0 ≤ x9_1)=true:=decide_eq_true c5
          clear c5
          by_cases c6:x9_1 < (l0.length:Int)
          · rw [if_pos c6] at H
            have c6b0:decide (x9_1 < (l0.length:Int))=true:=decide_eq_true c6
            clear c6
            replace H:=Option.bind_eq_some_iff.mp H
            obtain ⟨t548,A70,H⟩:=H
            replace H:((impl_four.f t548 ((rd_T79 l0 x9_1).f1)).bind fun t551=> (impl_extBytes.l0 k1 t551 l0 (l0.length:Int) (wrap64 (x9_1 + 1))))=some r:=H
            have A7:=Aside0.mk A70
            clear A70
            replace H:=Option.bind_eq_some_iff.mp H
            obtain ⟨t551,A80,H⟩:=H
            replace H:(impl_extBytes.l0 k1 t551 l0 (l0.length:Int) (wrap64 (x9_1 + 1)))=some r:=H
            have A8:=Aside0.mk A80
            clear A80
            have H':=Aside0.mk H
            clear H
            have p546:0 ≤ (x9_1:Int):=of_decide_eq_true (by first|(with_reducible assumption)|assumption)
            have q546:x9_1 < (l0.length:Int):=of_decide_eq_true (by first|(with_reducible assumption)|assumption)
            obtain ⟨ad546,e546,hx546_0,hx546_1⟩:=at_T79 HR0.out x9_1 p546 q546
            cases e546
            replace hx546_0:=(HB.out.cell (World.block_lt_of_cell? w _ hx546_0)).trans hx546_0
            replace hx546_1:=(HB.out.cell (World.block_lt_of_cell? w _ hx546_1)).trans hx546_1
            replace p546:=eq_true p546
            replace q546:=eq_true q546
            try go_wp2_with (first|((with_reducible refine gate_dst (N:=5) rfl ?_);refine box_event ?hg (N:=5) ?hd (cs:= #[.int .i64 0,.int .i64 0]) (t:=79) ?hr ?_;(case hd=> rfl);(case hg=> rfl);(case hr=> first|(go_simp;done)|(go_simp;rfl));intro gb547 hg w9 hbox hb;have n0_:=Aside0.mk (Kd.R_below (by (with_reducible repeat (first|apply Kd.R_alloc|apply Kd.R_drewN|apply Kd.R_drew));exact HO_3.out) hb);have n1_:=Aside0.mk (below_step (by repeat (first|(with_reducible first|exact HB.out|apply below_alloc|apply pw_below_drewN|apply below_drew1)|exact HB.out)) hb);have n2_:=Aside0.mk (hbox);have n3_:=Aside0.mk ((by rw [hg];exact (below_size (by repeat (first|(with_reducible first|exact HB.out|apply below_alloc|apply pw_below_drewN|apply below_drew1)|exact HB.out))):w.heap.size ≤ gb547));have n4_:=Aside0.mk ((by rw [hg];exact (below_size (by repeat (first|(with_reducible first|exact HB.out|apply below_alloc|apply pw_below_drewN|apply below_drew1)|exact HB.out))):w.heap.size ≤ gb547));clear HO_3;clear HB;have HO_3:=n0_;have HB:=n1_;have BK547:=n2_;have GW547:=n3_;have GE547:=n4_;clear n0_ n1_ n2_ n3_ n4_;clear hb hbox hg;have hcz10_0:w9.cell? ⟨gb547,0,none⟩=some (.int .i64 0):=(blk_cell BK547.out 0).trans rfl;have hcz10_1:w9.cell? ⟨gb547,1,none⟩=some (.int .i64 0):=(blk_cell BK547.out 1).trans rfl;have hfz10_0:=blk_frozen BK547.out 0;have hfz10_1:=blk_frozen BK547.out 1))
            have n0_:Aside0 (Kd.R (Kd.int .u8) 5 ((w9.setCell ⟨gb547,0,none⟩ (.int .i64 ((rd_T79 l0 x9_1).f0))).setCell ⟨gb547,1,none⟩ (.int .i64 ((rd_T79 l0 x9_1).f1))) w.heap.size (fun _=> True) u3 x3_1):=⟨by (with_reducible repeat (first|apply Kd.R_alloc|apply Kd.R_drewN|apply Kd.R_drew));exact Kd.R_mono (Kd.R_far (p:=⟨gb547,1,none⟩) (Kd.R_far (p:=⟨gb547,0,none⟩) (Kd.R_types HO_3.out BK547.out (by decide)) (fun _ hk=> hk.2) (.int .i64 ((rd_T79 l0 x9_1).f0))) (fun _ hk=> hk.2) (.int .i64 ((rd_T79 l0 x9_1).f1))) (fun _ hk=> trivial)⟩
            have n1_:Aside0 (((w9.setCell ⟨gb547,0,none⟩ (.int .i64 ((rd_T79 l0 x9_1).f0))).setCell ⟨gb547,1,none⟩ (.int .i64 ((rd_T79 l0 x9_1).f1))).heap[gb547]?=some (.cells #[.int .i64 ((rd_T79 l0 x9_1).f0),.int .i64 ((rd_T79 l0 x9_1).f1)] 79 (0,0))):=⟨by (with_reducible repeat (first|apply bN|apply bd|apply bA));refine blk_put (cs:= #[.int .i64 ((rd_T79 l0 x9_1).f0),.int .i64 0]) ?_ 1 _ rfl;(with_reducible repeat (first|apply bN|apply bd|apply bA));refine blk_put (cs:= #[.int .i64 0,.int .i64 0]) ?_ 0 _ rfl;(with_reducible repeat (first|apply bN|apply bd|apply bA));exact BK547.out⟩
            have n2_:Aside0 (Below w.heap.size w ((w9.setCell ⟨gb547,0,none⟩ (.int .i64 ((rd_T79 l0 x9_1).f0))).setCell ⟨gb547,1,none⟩ (.int .i64 ((rd_T79 l0 x9_1).f1)))):=⟨by repeat (first|(with_reducible first|exact HB.out|apply below_alloc|apply pw_below_drewN|apply below_drew1|refine below_set ?_ GE547.out)|exact HB.out)⟩
            (try clear HO_3)
            (try clear BK547)
            (try clear HB)
            generalize ((w9.setCell ⟨gb547,0,none⟩ (.int .i64 ((rd_T79 l0 x9_1).f0))).setCell ⟨gb547,1,none⟩ (.int .i64 ((rd_T79 l0 x9_1).f1)))=w11 at n0_ n1_ n2_ ⊢
            have HO_3:=n0_
            have BK547:=n1_
            have HB:=n2_
            clear n0_ n1_ n2_
            have n0_:=Aside0.mk (Kd.R_drew HO_3.out)
            have n1_:=Aside0.mk (blk_drew BK547.out)
            have n2_:=Aside0.mk (below_drew1 HB.out)
            clear HO_3
            clear BK547
            clear HB
            have HO_3:=n0_
            have BK547:=n1_
            have HB:=n2_
            clear n0_ n1_ n2_
            obtain ⟨Ao13,co13,eo13⟩:=Kd.R_slice HO_3.out
            (first|subst eo13|(injection eo13 with f1_ f2_ f3_;have f4_:=f1_.symm;have f5_:=f3_.symm;clear f1_ f2_ f3_;subst f4_;subst f5_))
            refine start_ (n:=8) (S:=fun w'=> w'.cell? ⟨gb547,0,none⟩=some (.int .i64 ((rd_T79 l0 x9_1).f0)) ∧ w'.cell? ⟨gb547,1,none⟩=some (.int .i64 ((rd_T79 l0 x9_1).f1))) (ds:= []) #[false,false,false,false,false,false,false,false] (by kernel_rfl) rfl rfl ⟨(blk_cell BK547.out 0).trans rfl,(blk_cell BK547.out 1).trans rfl⟩ (fun hHeld=> ?_);refine with_tabW impl_extBytes.tab5 impl_extBytes.bits5 (fun HT_ HW_=> ?_)
            generalize w11.drew=w12 at HO_3 BK547 HB hHeld ⊢
            refine pure_ (i:=0) (N:=some 13) (v:=?_) (a':=?_) #[true,false,false,false,false,false,false,false] rfl rfl (any_of HT_.out (by kernel_rfl)) (fun _ _ _ h=> h) (Or.inl ⟨by rfl,?_⟩) ?_ ?_
            rotate_left
            · intro w'
              go_simp
              with_reducible rfl
            rotate_left
            · simp only [Act.put,List.setIfInBounds_toArray,List.set_cons_zero,List.set_cons_succ,i64_w,i32_w]
              rfl
            refine pure_ (i:=1) (N:=some 14) (v:=?_) (a':=?_) #[true,true,false,false,false,false,false,false] rfl rfl (any_of HT_.out (by kernel_rfl)) (fun _ _ _ h=> h) (Or.inl ⟨by rfl,?_⟩) ?_ ?_
            rotate_left
            · intro w'
              go_simp
              with_reducible rfl
            rotate_left
            · simp only [Act.put,List.setIfInBounds_toArray,List.set_cons_zero,List.set_cons_succ,i64_w,i32_w]
              rfl
            refine pure_ (i:=4) (N:=some 17) (v:=?_) (a':=?_) #[true,true,false,false,true,false,false,false] rfl rfl (any_of HT_.out (by kernel_rfl)) (fun _ _ _ h=> h) (Or.inl ⟨by rfl,?_⟩) ?_ ?_
            rotate_left
            · intro w'
              go_simp
              with_reducible rfl
            rotate_left
            · simp only [Act.put,List.setIfInBounds_toArray,List.set_cons_zero,List.set_cons_succ,i64_w,i32_w]
              rfl
            refine take_ (i:=2) (N:=some 15) (v:=?_) (a':=?_) #[true,true,true,false,true,false,false,false] rfl rfl (take_ofW HT_.out HW_.out (by kernel_rfl)) (fun _ _ _ h=> h) (Or.inl ⟨by rfl,?_⟩) hHeld ?_ ?_
            rotate_left
            · rintro w' ⟨s0,s1⟩
              go_simp
              with_reducible rfl
            rotate_left
            · simp only [Act.put,List.setIfInBounds_toArray,List.set_cons_zero,List.set_cons_succ,i64_w,i32_w]
              rfl
            refine take_ (i:=5) (N:=some 18) (v:=?_) (a':=?_) #[true,true,true,false,true,true,false,false] rfl rfl (take_ofW HT_.out HW_.out (by kernel_rfl)) (fun _ _ _ h=> h) (Or.inl ⟨by rfl,?_⟩) hHeld ?_ ?_
            rotate_left
            · rintro w' ⟨s0,s1⟩
              go_simp
              with_reducible rfl
            rotate_left
            · simp only [Act.put,List.setIfInBounds_toArray,List.set_cons_zero,List.set_cons_succ,i64_w,i32_w]
              rfl
            refine one_ (i:=3) (N:=some 16) #[true,true,true,true,true,true,false,false] rfl rfl (one_of HT_.out (by kernel_rfl)) (by decide) (fun K hK=> ?_)
            refine goes_ Try.func149 (by kernel_rfl) rfl #[.slice Ao13 x3_1.length co13,.int .i64 ((rd_T79 l0 x9_1).f0)] (by rfl) rfl rfl (by (try simp only [List.map_toArray,List.map_cons,List.map_nil]);first|done|rfl|(simp only [List.length_drop,List.length_take];rfl)) ?_
            with_reducible refine (impl_four.calls (fun k_=> some k_=(.slice Ao13 x3_1.length co13:Value).ownBlock) (.slice Ao13 x3_1.length co13) x3_1 ((rd_T79 l0 x9_1).f0) t548 w _ ?side1 ?side2 A7.out).mono ?_
            (case side1=> repeat (first|(with_reducible first|exact HB.out|apply below_alloc|apply pw_below_drewN|apply below_drew1|refine below_set ?_ GE547.out)|exact HB.out))
            (case side2=> exact Kd.R_tight rfl HO_3.out)
            rintro e w14 ⟨v549,rfl,ho0,hb,hkp⟩
            refine ⟨_,rfl,?_⟩
            have n0_:=Aside0.mk (blk_kept (by (with_reducible repeat (first|apply bN|apply bd|apply bA));exact BK547.out) hkp (fun hs_=> (fun e_=> (Kd.R_ne HO_3.out BK547.out (by decide)) e_) hs_))
            have n1_:=Aside0.mk (Kd.R_mono (ok':=fun k_=> True) ho0 (fun k_ hk_=> trivial))
            have n2_:=Aside0.mk (hb)
            clear BK547
            clear HB
            clear HO_3
            have BK547:=n0_
            have HO550:=n1_
            have HB:=n2_
            clear n0_ n1_ n2_
            (try clear hb)
            (try clear hkp)
            (try clear ho0)
            obtain ⟨Ao15,co15,eo15⟩:=Kd.R_slice HO550.out
            (first|subst eo15|(injection eo15 with f1_ f2_ f3_;have f4_:=f1_.symm;have f5_:=f3_.symm;clear f1_ f2_ f3_;subst f4_;subst f5_))
            refine hK.out _ _ ⟨(blk_cell BK547.out 0).trans rfl,(blk_cell BK547.out 1).trans rfl⟩ (fun hHeld=> ?_)
            clear hK K
            refine norm_ (a':=?_) ?_ ?_
            rotate_left
            · show Act.put _ (some 16) _=_
              simp only [Act.put,List.setIfInBounds_toArray,List.set_cons_zero,List.set_cons_succ,i64_w,i32_w]
              rfl
            refine one_ (i:=6) (N:=some 19) #[true,true,true,true,true,true,true,false] rfl rfl (one_of HT_.out (by kernel_rfl)) (by decide) (fun K hK=> ?_)
            refine goes_ Try.func149 (by kernel_rfl) rfl #[.slice Ao15 t548.length co15,.int .i64 ((rd_T79 l0 x9_1).f1)] (by rfl) rfl rfl (by (try simp only [List.map_toArray,List.map_cons,List.map_nil]);first|done|rfl|(simp only [List.length_drop,List.length_take];rfl)) ?_
            with_reducible refine (impl_four.calls (fun k_=> some k_=(.slice Ao15 t548.length co15:Value).ownBlock) (.slice Ao15 t548.length co15) t548 ((rd_T79 l0 x9_1).f1) t551 w _ ?side1 ?side2 A8.out).mono ?_
            (case side1=> repeat (first|(with_reducible first|exact HB.out|apply below_alloc|apply pw_below_drewN|apply below_drew1|refine below_set ?_ GE547.out)|exact HB.out))
            (case side2=> exact Kd.R_tight rfl HO550.out)
            rintro e w16 ⟨v552,rfl,ho0,hb,hkp⟩
            refine ⟨_,rfl,?_⟩
            have n0_:=Aside0.mk (blk_kept (by (with_reducible repeat (first|apply bN|apply bd|apply bA));exact BK547.out) hkp (fun hs_=> (fun e_=> (Kd.R_ne HO550.out BK547.out (by decide)) e_) hs_))
            have n1_:=Aside0.mk (Kd.R_mono (ok':=fun k_=> True) ho0 (fun k_ hk_=> trivial))
            have n2_:=Aside0.mk (hb)
            clear BK547
            clear HB
            clear HO550
            have BK547:=n0_
            have HO553:=n1_
            have HB:=n2_
            clear n0_ n1_ n2_
            (try clear hb)
            (try clear hkp)
            (try clear ho0)
            refine hK.out _ _ ⟨(blk_cell BK547.out 0).trans rfl,(blk_cell BK547.out 1).trans rfl⟩ (fun hHeld=> ?_)
            clear hK K
            refine norm_ (a':=?_) ?_ ?_
            rotate_left
            · show Act.put _ (some 19) _=_
              simp only [Act.put,List.setIfInBounds_toArray,List.set_cons_zero,List.set_cons_succ,i64_w,i32_w]
              rfl
            refine pure_ (i:=7) (N:=some 3) (v:=?_) (a':=?_) #[true,true,true,true,true,true,true,true] rfl rfl (any_of HT_.out (by kernel_rfl)) (fun _ _ _ h=> h) (Or.inl ⟨by rfl,?_⟩) ?_ ?_
            rotate_left
            · intro w'
              go_simp
              with_reducible rfl
            rotate_left
            · simp only [Act.put,List.setIfInBounds_toArray,List.set_cons_zero,List.set_cons_succ,i64_w,i32_w]
              rfl
            refine done_ (done_of HT_.out (by kernel_rfl)) ?_
            try go_wp2
            go_roundg k1
            case measure=> have:=HK1.out;omega
            case rel=> exact ⟨(t551),(wrap64 (x9_1 + 1)),(by first|rfl|(simp;done)|(simp [*];done)),H',⟨by have:=HK1.out;omega⟩,⟨by (with_reducible repeat (first|apply Kd.R_alloc|apply Kd.R_drewN|apply Kd.R_drew));exact HO553.out⟩,⟨by repeat (first|(with_reducible first|exact HB.out|apply below_alloc|apply pw_below_drewN|apply below_drew1|refine below_set ?_ GE547.out)|exact HB.out)⟩⟩
          · rw [if_neg c6] at H
            exact absurd H (by simp)
        · rw [if_neg c5] at H
          exact absurd H (by simp)
      · rw [if_neg c4] at H
        have c4b0:decide (x9_1 < (l0.length:Int))=false:=decide_eq_false c4
        clear c4
        obtain rfl:=Option.some.inj H
        go_wp2
        go_ret
        exact ⟨_,by first|rfl|(simp [errW_none,errW_some] <;> rfl)|(simp [*,errW_none,errW_some] <;> rfl),by (with_reducible repeat (first|apply Kd.R_alloc|apply Kd.R_drewN|apply Kd.R_drew));exact HO_3.out,by repeat (first|(with_reducible first|exact HB.out|apply below_alloc|apply pw_below_drewN|apply below_drew1)|exact HB.out)⟩
end Go.Proofs.Ytlogocmojnhpbaa.Print
namespace Go.Proofs.Ytlogocmojnhpbaa.Print
open Go Go.RowKit Go.Proofs.YtlogocmojnhpbaaW.PrintWords Go.Proofs.YtlogocmojnhpbaaW.PrintLast
set_option linter.unusedVariables false
set_option linter.unusedSimpArgs false
theorem are_EN.calls (n:Nat) (A0:Option Addr) (c0:Nat) (l0:List (S79)) (r:Bool) (w:World) (hn:n=l0.length) (hr0:Kd.C k79 w A0 n l0) (hc0:n ≤ c0) (h:are_Ext.f l0=some r):
    Calls Try.prog 122 #[.func (.func 123) #[] #[],.slice A0 n c0] w fun e w'=> e= .returned (.bool r) ∧ Below w.heap.size w w':=by
  subst hn
  exact are_Ext.calls A0 c0 l0 r w hr0 hc0 h
set_option maxHeartbeats 1000000 in
set_option maxRecDepth 100000 in
theorem absorbExts.calls (B:Nat) (sv:Value) (at_ n:Int) (st:ByteArray) (A:Option Addr) (c k m:Nat) (l:List S79) (bs:List Int) (w:World) (hm:m=l.length) (hB:SrcBlk w B sv at_ st n) (hr:Kd.C k79 w A m l) (hc:m ≤ c) (hf:impl_extBytes.f k l=some bs) (htb:AllB bs) (hst:st.size ≤ 1000000) (htl:bs.length ≤ 140737480000000):
    Calls Try.prog 130 #[.pointer (some ⟨B,0,none⟩),.slice A m c] w fun e w'=> e= .returned (.tuple #[]) ∧ SrcBlk w' B sv at_ (absorbH st bs) 0 ∧ Moved w w' (fun i=> i=B):=by
  subst hm
  have HB:=Aside0.mk hB
  have L1:=Aside0.mk (impl_extBytes.calls k A c l bs w hr hc hf)
  have HT:=Aside0.mk htb
  have HS:=Aside0.mk hst
  have HL:=Aside0.mk htl
  clear hB hr hc hf htb hst htl
  generalize l.length=m at L1 ⊢
  go_enter Try.func130,Try.ntmps130
  go_wp2_with (first
    |(go_at_call 156;refine L1.out.mono ?_;rintro e w1 ⟨v,rfl,hR,hb1⟩;have HB1:=Aside0.mk (HB.out.below hb1);have HM:=Aside0.mk (Moved.of_below (p:=fun i=> i=B) hb1);have HP:Aside0 (PRowB B w1 v bs):=⟨⟨PRow.of_R hR,fun ad n' c' e=> by have h1:=Kd.R_base hR ad.block (by rw [e];rfl);have h2:=HB.out.lt;omega⟩⟩;obtain ⟨A5,c5,e5⟩:=Kd.R_slice hR;subst e5;clear hR hb1)
    |(go_at_call 128;(with_reducible refine (absorbN.calls B sv at_ n st A5 c5 bs bs.length _ rfl ?l1 ?l2 HT.out HS.out HL.out).mono ?_);(case l1=> exact HB1.out);(case l2=> exact HP.out);rintro e w2 ⟨rfl,hS2,hM2⟩;have HS2:=Aside0.mk hS2;have HM2:=Aside0.mk (HM.out.trans hM2);clear hS2 hM2))
  first|go_end0|refine bodyPost_ret (results_none rfl _ _ _) rfl ?_
  exact ⟨rfl,HS2.out,HM2.out⟩
def impl_AbsorbExts.f (l0_0:List (S79)) (a0_1:Int) (a0_2:ByteArray) (a0_3:Int) (l1:List (S79)):Option ((List (S79)) × Int × ByteArray × Int × Int):=
  if (l1.length:Int) > 4096 then some ([],0,⟨#[]⟩,0,2) else (impl_SourceOK.f l0_0 a0_1 a0_2 a0_3).bind fun ok=> if ok=true then ((are_Ext.f l1).bind fun ok2=> if ok2=true then ((impl_extBytes.f (l1.length + 1) l1).bind fun bs=> if a0_2.size ≤ 1000000 ∧ l0_0.length ≤ 1000000 ∧ okBytes bs=true ∧ bs.length ≤ 1000000 then some (l0_0,a0_1,absorbH a0_2 bs,0,0) else none) else some ([],0,⟨#[]⟩,0,1)) else some ([],0,⟨#[]⟩,0,1)
set_option maxHeartbeats 1000000 in
set_option maxRecDepth 100000 in
theorem impl_AbsorbExts.long (A0_0:Option Addr) (c0_0:Nat) (l0_0:List (S79)) (a0_1:Int) (a0_2:ByteArray) (a0_3:Int) (A1:Option Addr) (c1:Nat) (l1:List (S79)) (w:World) (hr0_0:Kd.C k79 w A0_0 l0_0.length l0_0) (hc0_0:l0_0.length ≤ c0_0) (hr1:Kd.C k79 w A1 l1.length l1) (hc1:l1.length ≤ c1) (h1:(l1.length:Int) > 4096):
    Calls Try.prog 68 #[.agg #[.slice A0_0 l0_0.length c0_0,.int .i64 a0_1,.string a0_2,.int .i64 a0_3],.slice A1 l1.length c1] w fun e w'=> ∃ v0_:Value,e= .returned (.tuple #[.agg #[v0_,.int .i64 0,.string ⟨#[]⟩,.int .i64 0],.int .i64 2]) ∧ Kd.R k79 79 w' w.heap.size (fun _=> True) v0_ [] ∧ Below w.heap.size w w':=by
  have hu36:=Try.underlying36
  have hm1:=Kd.C_max hr1
  obtain ⟨n1,hn1⟩:∃ n1,n1=l1.length:=⟨_,rfl⟩
  have HN1:=Aside0.mk hn1
  rw [← hn1] at hr1 hc1 hm1 h1 ⊢
  clear hn1
  have HR:=Aside0.mk hr0_0
  have HC:=Aside0.mk hc0_0
  have HR1:=Aside0.mk hr1
  have HC1:=Aside0.mk hc1
  have h1':(4096:Int) < (n1:Int):=h1
  clear h1
  clear hr0_0 hc0_0 hr1 hc1
  go_enter Try.func68,Try.ntmps68
  go_wp2_with (first
    |((with_reducible refine gate_dst (N:=2) rfl ?_);refine box_event ?hg (N:=2) ?hd (cs:= #[.slice A0_0 l0_0.length c0_0,.int .i64 a0_1,.string a0_2,.int .i64 a0_3]) (t:=36) ?hr ?_;(case hd=> rfl);(case hg=> rfl);(case hr=> first|(go_simp;done)|(go_simp;rfl));intro g1 hg1 w1 hbox1 hb1)
    |((with_reducible refine gate_dst (N:=4) rfl ?_);refine box_event ?hg (N:=4) ?hd (cs:= #[.slice none 0 0,.int .i64 0,.string (⟨#[]⟩:ByteArray),.int .i64 0]) (t:=36) ?hr ?_;(case hd=> rfl);(case hg=> rfl);(case hr=> first|(go_simp;done)|(go_simp;rfl));intro g2 hg2 w2 hbox2 hb2;have LD:Aside0 (Led w w2 g1 g2 (.slice A0_0 l0_0.length c0_0) a0_1 a0_2 a0_3):=⟨⟨SrcBlk.below hbox1 hb2,hbox2,below_step hb1 hb2,by omega,by have:=hb1.size;omega,by have:=blk_lt hbox1;omega⟩⟩;clear hbox1 hbox2 hb1 hb2 hg1 hg2;have LDZ:=LD;have p0:=LDZ.out.b2.cell0;have p1:=LDZ.out.b2.cell1;have p2:=LDZ.out.b2.cell2;have p3:=LDZ.out.b2.cell3;have z0:=LDZ.out.b2.frozen 0;have z1:=LDZ.out.b2.frozen 1;have z2:=LDZ.out.b2.frozen 2;have z3:=LDZ.out.b2.frozen 3)
    |done)
  refine bodyPost_ret (results_ct rfl _ _ g2 36 #[.slice none 0 0,.int .i64 0,.string (⟨#[]⟩:ByteArray),.int .i64 0] (0,0) _ rfl (LDZ.out.b2.setAll (.slice none 0 0) 0 0 ⟨#[]⟩) Try.underlying36 rfl (by kernel_rfl)) rfl ?_
  exact ⟨_,rfl,Kd.R_nil _ _ _ _ _,below_setAll LDZ.out.hb LDZ.out.h2 _ _ _ _⟩
set_option maxHeartbeats 1000000 in
set_option maxRecDepth 100000 in
theorem impl_AbsorbExts.bad1 (A0_0:Option Addr) (c0_0:Nat) (l0_0:List (S79)) (a0_1:Int) (a0_2:ByteArray) (a0_3:Int) (A1:Option Addr) (c1:Nat) (l1:List (S79)) (w:World) (hr0_0:Kd.C k79 w A0_0 l0_0.length l0_0) (hc0_0:l0_0.length ≤ c0_0) (hr1:Kd.C k79 w A1 l1.length l1) (hc1:l1.length ≤ c1) (h1:¬ (l1.length:Int) > 4096) (h2:impl_SourceOK.f l0_0 a0_1 a0_2 a0_3=some false):
    Calls Try.prog 68 #[.agg #[.slice A0_0 l0_0.length c0_0,.int .i64 a0_1,.string a0_2,.int .i64 a0_3],.slice A1 l1.length c1] w fun e w'=> ∃ v0_:Value,e= .returned (.tuple #[.agg #[v0_,.int .i64 0,.string ⟨#[]⟩,.int .i64 0],.int .i64 1]) ∧ Kd.R k79 79 w' w.heap.size (fun _=> True) v0_ [] ∧ Below w.heap.size w w':=by
  have hu36:=Try.underlying36
  have hm1:=Kd.C_max hr1
  obtain ⟨n1,hn1⟩:∃ n1,n1=l1.length:=⟨_,rfl⟩
  have HN1:=Aside0.mk hn1
  rw [← hn1] at hr1 hc1 hm1 h1 ⊢
  clear hn1
  have HR:=Aside0.mk hr0_0
  have HC:=Aside0.mk hc0_0
  have HR1:=Aside0.mk hr1
  have HC1:=Aside0.mk hc1
  have h1':¬ (4096:Int) < (n1:Int):=h1
  have H2:=Aside0.mk h2
  clear h1 h2
  clear hr0_0 hc0_0 hr1 hc1
  go_enter Try.func68,Try.ntmps68
  go_wp2_with (first
    |((with_reducible refine gate_dst (N:=2) rfl ?_);refine box_event ?hg (N:=2) ?hd (cs:= #[.slice A0_0 l0_0.length c0_0,.int .i64 a0_1,.string a0_2,.int .i64 a0_3]) (t:=36) ?hr ?_;(case hd=> rfl);(case hg=> rfl);(case hr=> first|(go_simp;done)|(go_simp;rfl));intro g1 hg1 w1 hbox1 hb1)
    |((with_reducible refine gate_dst (N:=4) rfl ?_);refine box_event ?hg (N:=4) ?hd (cs:= #[.slice none 0 0,.int .i64 0,.string (⟨#[]⟩:ByteArray),.int .i64 0]) (t:=36) ?hr ?_;(case hd=> rfl);(case hg=> rfl);(case hr=> first|(go_simp;done)|(go_simp;rfl));intro g2 hg2 w2 hbox2 hb2;have LD:Aside0 (Led w w2 g1 g2 (.slice A0_0 l0_0.length c0_0) a0_1 a0_2 a0_3):=⟨⟨SrcBlk.below hbox1 hb2,hbox2,below_step hb1 hb2,by omega,by have:=hb1.size;omega,by have:=blk_lt hbox1;omega⟩⟩;clear hbox1 hbox2 hb1 hb2 hg1 hg2;have q0:=LD.out.b1.cell0;have q1:=LD.out.b1.cell1;have q2:=LD.out.b1.cell2;have q3:=LD.out.b1.cell3)
    |(go_at_call 116;refine (impl_SourceOK.calls A0_0 c0_0 l0_0 a0_1 a0_2 a0_3 _ _ (Kd.C_below HR.out LD.out.hb) HC.out H2.out).mono ?_;rintro e w4 ⟨rfl,hd4⟩;have LD4:=Aside0.mk (LD.out.below hd4);clear hd4 LD q0 q1 q2 q3;have LDZ:=LD4;have p0:=LDZ.out.b2.cell0;have p1:=LDZ.out.b2.cell1;have p2:=LDZ.out.b2.cell2;have p3:=LDZ.out.b2.cell3;have z0:=LDZ.out.b2.frozen 0;have z1:=LDZ.out.b2.frozen 1;have z2:=LDZ.out.b2.frozen 2;have z3:=LDZ.out.b2.frozen 3))
  refine bodyPost_ret (results_ct rfl _ _ g2 36 #[.slice none 0 0,.int .i64 0,.string (⟨#[]⟩:ByteArray),.int .i64 0] (0,0) _ rfl (LDZ.out.b2.setAll (.slice none 0 0) 0 0 ⟨#[]⟩) Try.underlying36 rfl (by kernel_rfl)) rfl ?_
  exact ⟨_,rfl,Kd.R_nil _ _ _ _ _,below_setAll LDZ.out.hb LDZ.out.h2 _ _ _ _⟩
set_option maxHeartbeats 1000000 in
set_option maxRecDepth 100000 in
theorem impl_AbsorbExts.bad2 (A0_0:Option Addr) (c0_0:Nat) (l0_0:List (S79)) (a0_1:Int) (a0_2:ByteArray) (a0_3:Int) (A1:Option Addr) (c1:Nat) (l1:List (S79)) (w:World) (hr0_0:Kd.C k79 w A0_0 l0_0.length l0_0) (hc0_0:l0_0.length ≤ c0_0) (hr1:Kd.C k79 w A1 l1.length l1) (hc1:l1.length ≤ c1) (h1:¬ (l1.length:Int) > 4096) (h2:impl_SourceOK.f l0_0 a0_1 a0_2 a0_3=some true) (h3:are_Ext.f l1=some false):
    Calls Try.prog 68 #[.agg #[.slice A0_0 l0_0.length c0_0,.int .i64 a0_1,.string a0_2,.int .i64 a0_3],.slice A1 l1.length c1] w fun e w'=> ∃ v0_:Value,e= .returned (.tuple #[.agg #[v0_,.int .i64 0,.string ⟨#[]⟩,.int .i64 0],.int .i64 1]) ∧ Kd.R k79 79 w' w.heap.size (fun _=> True) v0_ [] ∧ Below w.heap.size w w':=by
  have hu36:=Try.underlying36
  have hm1:=Kd.C_max hr1
  obtain ⟨n1,hn1⟩:∃ n1,n1=l1.length:=⟨_,rfl⟩
  have HN1:=Aside0.mk hn1
  rw [← hn1] at hr1 hc1 hm1 h1 ⊢
  clear hn1
  have HR:=Aside0.mk hr0_0
  have HC:=Aside0.mk hc0_0
  have HR1:=Aside0.mk hr1
  have HC1:=Aside0.mk hc1
  have h1':¬ (4096:Int) < (n1:Int):=h1
  have H2:=Aside0.mk h2
  have H3:=Aside0.mk h3
  clear h1 h2 h3
  clear hr0_0 hc0_0 hr1 hc1
  go_enter Try.func68,Try.ntmps68
  go_wp2_with (first
    |((with_reducible refine gate_dst (N:=2) rfl ?_);refine box_event ?hg (N:=2) ?hd (cs:= #[.slice A0_0 l0_0.length c0_0,.int .i64 a0_1,.string a0_2,.int .i64 a0_3]) (t:=36) ?hr ?_;(case hd=> rfl);(case hg=> rfl);(case hr=> first|(go_simp;done)|(go_simp;rfl));intro g1 hg1 w1 hbox1 hb1)
    |((with_reducible refine gate_dst (N:=4) rfl ?_);refine box_event ?hg (N:=4) ?hd (cs:= #[.slice none 0 0,.int .i64 0,.string (⟨#[]⟩:ByteArray),.int .i64 0]) (t:=36) ?hr ?_;(case hd=> rfl);(case hg=> rfl);(case hr=> first|(go_simp;done)|(go_simp;rfl));intro g2 hg2 w2 hbox2 hb2;have LD:Aside0 (Led w w2 g1 g2 (.slice A0_0 l0_0.length c0_0) a0_1 a0_2 a0_3):=⟨⟨SrcBlk.below hbox1 hb2,hbox2,below_step hb1 hb2,by omega,by have:=hb1.size;omega,by have:=blk_lt hbox1;omega⟩⟩;clear hbox1 hbox2 hb1 hb2 hg1 hg2;have q0:=LD.out.b1.cell0;have q1:=LD.out.b1.cell1;have q2:=LD.out.b1.cell2;have q3:=LD.out.b1.cell3)
    |(go_at_call 116;refine (impl_SourceOK.calls A0_0 c0_0 l0_0 a0_1 a0_2 a0_3 _ _ (Kd.C_below HR.out LD.out.hb) HC.out H2.out).mono ?_;rintro e w4 ⟨rfl,hd4⟩;have LD4:=Aside0.mk (LD.out.below hd4);clear hd4 LD q0 q1 q2 q3;have q0:=LD4.out.b1.cell0;have q1:=LD4.out.b1.cell1;have q2:=LD4.out.b1.cell2;have q3:=LD4.out.b1.cell3)
    |(go_at_call 122;refine (are_EN.calls n1 A1 c1 l1 _ _ HN1.out (Kd.C_below HR1.out LD4.out.hb) HC1.out H3.out).mono ?_;rintro e w45 ⟨rfl,hd4⟩;have LD45:=Aside0.mk (LD4.out.below hd4);clear hd4 LD4 q0 q1 q2 q3;have LDZ:=LD45;have p0:=LDZ.out.b2.cell0;have p1:=LDZ.out.b2.cell1;have p2:=LDZ.out.b2.cell2;have p3:=LDZ.out.b2.cell3;have z0:=LDZ.out.b2.frozen 0;have z1:=LDZ.out.b2.frozen 1;have z2:=LDZ.out.b2.frozen 2;have z3:=LDZ.out.b2.frozen 3))
  refine bodyPost_ret (results_ct rfl _ _ g2 36 #[.slice none 0 0,.int .i64 0,.string (⟨#[]⟩:ByteArray),.int .i64 0] (0,0) _ rfl (LDZ.out.b2.setAll (.slice none 0 0) 0 0 ⟨#[]⟩) Try.underlying36 rfl (by kernel_rfl)) rfl ?_
  exact ⟨_,rfl,Kd.R_nil _ _ _ _ _,below_setAll LDZ.out.hb LDZ.out.h2 _ _ _ _⟩
set_option maxHeartbeats 1000000 in
set_option maxRecDepth 100000 in
theorem impl_AbsorbExts.ok (A0_0:Option Addr) (c0_0:Nat) (l0_0:List (S79)) (a0_1:Int) (a0_2:ByteArray) (a0_3:Int) (A1:Option Addr) (c1:Nat) (l1:List (S79)) (w:World) (hr0_0:Kd.C k79 w A0_0 l0_0.length l0_0) (hc0_0:l0_0.length ≤ c0_0) (hr1:Kd.C k79 w A1 l1.length l1) (hc1:l1.length ≤ c1) (k:Nat) (bs:List Int) (h1:¬ (l1.length:Int) > 4096) (h2:impl_SourceOK.f l0_0 a0_1 a0_2 a0_3=some true) (h3:are_Ext.f l1=some true) (h4:impl_extBytes.f k l1=some bs) (h5:a0_2.size ≤ 1000000) (h6:l0_0.length ≤ 1000000) (h7:AllB bs) (h8:bs.length ≤ 140737480000000):
    Calls Try.prog 68 #[.agg #[.slice A0_0 l0_0.length c0_0,.int .i64 a0_1,.string a0_2,.int .i64 a0_3],.slice A1 l1.length c1] w fun e w'=> ∃ v0_:Value,e= .returned (.tuple #[.agg #[v0_,.int .i64 a0_1,.string (absorbH a0_2 bs),.int .i64 0],.int .i64 0]) ∧ Kd.R k79 79 w' w.heap.size (fun _=> True) v0_ l0_0 ∧ Below w.heap.size w w':=by
  have hu36:=Try.underlying36
  have hm1:=Kd.C_max hr1
  obtain ⟨n1,hn1⟩:∃ n1,n1=l1.length:=⟨_,rfl⟩
  have HN1:=Aside0.mk hn1
  rw [← hn1] at hr1 hc1 hm1 h1 ⊢
  clear hn1
  have HR:=Aside0.mk hr0_0
  have HC:=Aside0.mk hc0_0
  have HR1:=Aside0.mk hr1
  have HC1:=Aside0.mk hc1
  have h1':¬ (4096:Int) < (n1:Int):=h1
  have H2:=Aside0.mk h2
  have H3:=Aside0.mk h3
  have HF:=Aside0.mk h4
  have HCP:=Aside0.mk (show impl_Source_copied.f l0_0 a0_1 a0_2 a0_3=some (l0_0,a0_1,a0_2,a0_3) by unfold impl_Source_copied.f slices_Clone.f;rw [if_pos h6];rfl)
  have HS:=Aside0.mk h5
  have HT:=Aside0.mk h7
  have HL:=Aside0.mk h8
  obtain ⟨R,hR⟩:∃ R,R=absorbH a0_2 bs:=⟨_,rfl⟩
  rw [← hR]
  have HRR:=Aside0.mk hR
  clear h1 h2 h3 h4 h5 h6 h7 h8 hR
  clear hr0_0 hc0_0 hr1 hc1
  go_enter Try.func68,Try.ntmps68
  go_wp2_with (first
    |((with_reducible refine gate_dst (N:=2) rfl ?_);refine box_event ?hg (N:=2) ?hd (cs:= #[.slice A0_0 l0_0.length c0_0,.int .i64 a0_1,.string a0_2,.int .i64 a0_3]) (t:=36) ?hr ?_;(case hd=> rfl);(case hg=> rfl);(case hr=> first|(go_simp;done)|(go_simp;rfl));intro g1 hg1 w1 hbox1 hb1)
    |((with_reducible refine gate_dst (N:=4) rfl ?_);refine box_event ?hg (N:=4) ?hd (cs:= #[.slice none 0 0,.int .i64 0,.string (⟨#[]⟩:ByteArray),.int .i64 0]) (t:=36) ?hr ?_;(case hd=> rfl);(case hg=> rfl);(case hr=> first|(go_simp;done)|(go_simp;rfl));intro g2 hg2 w2 hbox2 hb2;have LD:Aside0 (Led w w2 g1 g2 (.slice A0_0 l0_0.length c0_0) a0_1 a0_2 a0_3):=⟨⟨SrcBlk.below hbox1 hb2,hbox2,below_step hb1 hb2,by omega,by have:=hb1.size;omega,by have:=blk_lt hbox1;omega⟩⟩;clear hbox1 hbox2 hb1 hb2 hg1 hg2;have q0:=LD.out.b1.cell0;have q1:=LD.out.b1.cell1;have q2:=LD.out.b1.cell2;have q3:=LD.out.b1.cell3)
    |(go_at_call 116;refine (impl_SourceOK.calls A0_0 c0_0 l0_0 a0_1 a0_2 a0_3 _ _ (Kd.C_below HR.out LD.out.hb) HC.out H2.out).mono ?_;rintro e w4 ⟨rfl,hd4⟩;have LD4:=Aside0.mk (LD.out.below hd4);clear hd4 LD q0 q1 q2 q3;have q0:=LD4.out.b1.cell0;have q1:=LD4.out.b1.cell1;have q2:=LD4.out.b1.cell2;have q3:=LD4.out.b1.cell3)
    |(go_at_call 122;refine (are_EN.calls n1 A1 c1 l1 _ _ HN1.out (Kd.C_below HR1.out LD4.out.hb) HC1.out H3.out).mono ?_;rintro e w45 ⟨rfl,hd4⟩;have LD45:=Aside0.mk (LD4.out.below hd4);clear hd4 LD4 q0 q1 q2 q3;have q0:=LD45.out.b1.cell0;have q1:=LD45.out.b1.cell1;have q2:=LD45.out.b1.cell2;have q3:=LD45.out.b1.cell3)
    |(go_at_call 127;refine (impl_Source_copied.calls A0_0 c0_0 l0_0 a0_1 a0_2 a0_3 _ _ _ _ _ (Kd.C_below HR.out LD45.out.hb) HC.out HCP.out).mono ?_;rintro e w5 ⟨v5,rfl,hR5,hb5⟩;have HW4:=Aside0.mk LD45.out.hb.size;have LD5:=Aside0.mk (LD45.out.below hb5);have HR5:=Aside0.mk hR5;clear hb5 hR5 LD45 q0 q1 q2 q3;obtain ⟨Ao,co,eo⟩:=Kd.R_slice HR5.out;subst eo)
    |((with_reducible refine gate_dst (N:=6) rfl ?_);refine box_event ?hg (N:=6) ?hd (cs:= #[.slice none 0 0,.int .i64 0,.string (⟨#[]⟩:ByteArray),.int .i64 0]) (t:=36) ?hr ?_;(case hd=> rfl);(case hg=> rfl);(case hr=> first|(go_simp;done)|(go_simp;rfl));intro g3 hg3 w6 hbox3 hb6;have HO:=Aside0.mk (Outg.start LD5.out HR5.out HW4.out hg3 hbox3 hb6);have q0:=SrcBlk.cell0 hbox3;have q1:=SrcBlk.cell1 hbox3;have q2:=SrcBlk.cell2 hbox3;have q3:=SrcBlk.cell3 hbox3;have z0:=SrcBlk.frozen hbox3 0;have z1:=SrcBlk.frozen hbox3 1;have z2:=SrcBlk.frozen hbox3 2;have z3:=SrcBlk.frozen hbox3 3;clear hbox3 hb6 hg3 LD5 HR5 HW4)
    |(go_at_call 130;(with_reducible refine (absorbExts.calls g3 (.slice Ao l0_0.length co) a0_1 a0_3 a0_2 A1 c1 _ n1 l1 bs _ HN1.out ?l1 ?l2 HC1.out HF.out HT.out HS.out HL.out).mono ?_);(case l1=> exact HO.out.b3);(case l2=> exact Kd.C_below HR1.out HO.out.hb);rintro e w8 ⟨rfl,hS8,hM8⟩;rw [← HRR.out] at hS8;have HO8:=Aside0.mk (HO.out.moved hM8 hS8);clear hM8 hS8 HO q0 q1 q2 q3 z0 z1 z2 z3;have q0:=HO8.out.b3.cell0;have q1:=HO8.out.b3.cell1;have q2:=HO8.out.b3.cell2;have q3:=HO8.out.b3.cell3;have p0:=HO8.out.b2.cell0;have p1:=HO8.out.b2.cell1;have p2:=HO8.out.b2.cell2;have p3:=HO8.out.b2.cell3;have z0:=HO8.out.b2.frozen 0;have z1:=HO8.out.b2.frozen 1;have z2:=HO8.out.b2.frozen 2;have z3:=HO8.out.b2.frozen 3))
  have HD:=HO8.out.done a0_1 0 R
  refine bodyPost_ret (results_ct rfl _ _ g2 36 #[.slice Ao l0_0.length co,.int .i64 a0_1,.string R,.int .i64 0] (0,0) _ rfl HD.1 Try.underlying36 rfl (by kernel_rfl)) rfl ?_
  exact ⟨_,rfl,HD.2.1,HD.2.2⟩
theorem impl_AbsorbExts.calls (A0_0:Option Addr) (c0_0:Nat) (l0_0:List (S79)) (a0_1:Int) (a0_2:ByteArray) (a0_3:Int) (A1:Option Addr) (c1:Nat) (l1:List (S79)) (r1:List (S79)) (r2:Int) (r3:ByteArray) (r4:Int) (r5:Int) (w:World) (hr0_0:Kd.C k79 w A0_0 l0_0.length l0_0) (hc0_0:l0_0.length ≤ c0_0) (hr1:Kd.C k79 w A1 l1.length l1) (hc1:l1.length ≤ c1) (h:impl_AbsorbExts.f l0_0 a0_1 a0_2 a0_3 l1=some (r1,r2,r3,r4,r5)):
    Calls Try.prog 68 #[.agg #[.slice A0_0 l0_0.length c0_0,.int .i64 a0_1,.string a0_2,.int .i64 a0_3],.slice A1 l1.length c1] w fun e w'=> ∃ v0_:Value,e= .returned (.tuple #[.agg #[v0_,.int .i64 r2,.string r3,.int .i64 r4],.int .i64 r5]) ∧ Kd.R k79 79 w' w.heap.size (fun _=> True) v0_ r1 ∧ Below w.heap.size w w':=by
  unfold impl_AbsorbExts.f at h
  split at h
  · next h1=>
    simp only [Option.some.injEq,Prod.mk.injEq] at h
    obtain ⟨rfl,rfl,rfl,rfl,rfl⟩:=h
    exact impl_AbsorbExts.long A0_0 c0_0 l0_0 a0_1 a0_2 a0_3 A1 c1 l1 w hr0_0 hc0_0 hr1 hc1 h1
  · next h1=>
    obtain ⟨ok,h2,h⟩:=Option.bind_eq_some_iff.mp h
    cases ok with
    |true=>
      rw [if_pos rfl] at h
      obtain ⟨ok2,h3,h⟩:=Option.bind_eq_some_iff.mp h
      cases ok2 with
      |true=>
        rw [if_pos rfl] at h
        obtain ⟨bs,h4,h⟩:=Option.bind_eq_some_iff.mp h
        split at h
        · next h5=>
          simp only [Option.some.injEq,Prod.mk.injEq] at h
          obtain ⟨rfl,rfl,rfl,rfl,rfl⟩:=h
          exact impl_AbsorbExts.ok A0_0 c0_0 l0_0 a0_1 a0_2 a0_3 A1 c1 l1 w hr0_0 hc0_0 hr1 hc1 _ bs h1 h2 h3 h4 h5.1 h5.2.1 (okBytes_in h5.2.2.1) (by omega)
        · cases h
      |false=>
        rw [if_neg (by decide)] at h
        simp only [Option.some.injEq,Prod.mk.injEq] at h
        obtain ⟨rfl,rfl,rfl,rfl,rfl⟩:=h
        exact impl_AbsorbExts.bad2 A0_0 c0_0 l0_0 a0_1 a0_2 a0_3 A1 c1 l1 w hr0_0 hc0_0 hr1 hc1 h1 h2 h3
    |false=>
      rw [if_neg (by decide)] at h
      simp only [Option.some.injEq,Prod.mk.injEq] at h
      obtain ⟨rfl,rfl,rfl,rfl,rfl⟩:=h
      exact impl_AbsorbExts.bad1 A0_0 c0_0 l0_0 a0_1 a0_2 a0_3 A1 c1 l1 w hr0_0 hc0_0 hr1 hc1 h1 h2
end Go.Proofs.Ytlogocmojnhpbaa.Print
namespace Go.Proofs.Ytlogocmojnhpbaa.Print
open Go.RowKit Go.Proofs.YtlogocmojnhpbaaW.PrintWords Go.Proofs.YtlogocmojnhpbaaW.PrintLast Go.Proofs.YtlogocmojnhpbaaW.PrintMore
attribute [local go_sem] max2_int min2_int max_two min_two max_three min_three max_four min_four
set_option linter.unusedVariables false
set_option linter.unusedSimpArgs false
def laws_eqExt.f (a0_0:Int) (a0_1:Int) (a1_0:Int) (a1_1:Int):Option (Bool):=if a0_0=a1_0 then (if a0_1=a1_1 then (some true) else (some false)) else (some false)
set_option maxHeartbeats 8000000 in
set_option maxRecDepth 100000 in
theorem laws_eqExt.calls (a0_0:Int) (a0_1:Int) (a1_0:Int) (a1_1:Int) (r:Bool) (w:World) (h:laws_eqExt.f a0_0 a0_1 a1_0 a1_1=some r):
    Calls Try.prog 71 #[.agg #[.int .i64 a0_0,.int .i64 a0_1],.agg #[.int .i64 a1_0,.int .i64 a1_1]] w fun e w'=> e= .returned (.bool r) ∧ Below w.heap.size w w':=by
  have hu79:=Try.underlying79
  have HB:=Aside0.mk (Below.refl w.heap.size w)
  have H:(if a0_0=a1_0 then (if a0_1=a1_1 then (some true) else (some false)) else (some false))=some r:=h
  clear h
  by_cases c3:a0_0=a1_0
  · rw [if_pos c3] at H
    have c3b0:(a0_0==a1_0)=true:=beq_iff_eq.mpr c3
    have c3b1:(a0_0 !=a1_0)=false:=bne_eq_false_iff_eq.mpr c3
    clear c3
    by_cases c4:a0_1=a1_1
    · rw [if_pos c4] at H
      have c4b0:(a0_1==a1_1)=true:=beq_iff_eq.mpr c4
      have c4b1:(a0_1 !=a1_1)=false:=bne_eq_false_iff_eq.mpr c4
      clear c4
      obtain rfl:=Option.some.inj H
      go_enter Try.func71,Try.ntmps71
      go_wp2_with (first|((with_reducible refine gate_dst (N:=2) rfl ?_);refine box_event ?hg (N:=2) ?hd (cs:= #[.int .i64 a0_0,.int .i64 a0_1]) (t:=79) ?hr ?_;(case hd=> rfl);(case hg=> rfl);(case hr=> first|(go_simp;done)|(go_simp;rfl));intro gb162 hg w5 hbox hb;have n0_:=Aside0.mk (below_step (by repeat (first|(with_reducible first|exact HB.out|apply below_alloc|apply pw_below_drewN|apply below_drew1)|exact HB.out)) hb);have n1_:=Aside0.mk (hbox);have n2_:=Aside0.mk ((by rw [hg];exact (below_size (by repeat (first|(with_reducible first|exact HB.out|apply below_alloc|apply pw_below_drewN|apply below_drew1)|exact HB.out))):w.heap.size ≤ gb162));have n3_:=Aside0.mk ((by rw [hg];exact (below_size (by repeat (first|(with_reducible first|exact HB.out|apply below_alloc|apply pw_below_drewN|apply below_drew1)|exact HB.out))):w.heap.size ≤ gb162));clear HB;have HB:=n0_;have BK162:=n1_;have GW162:=n2_;have GE162:=n3_;clear n0_ n1_ n2_ n3_;clear hb hbox hg)|((with_reducible refine gate_dst (N:=3) rfl ?_);refine box_event ?hg (N:=3) ?hd (cs:= #[.int .i64 a1_0,.int .i64 a1_1]) (t:=79) ?hr ?_;(case hd=> rfl);(case hg=> rfl);(case hr=> first|(go_simp;done)|(go_simp;rfl));intro gb163 hg w6 hbox hb;have n0_:=Aside0.mk (blk_below (g:=gb162) (o:= .cells #[.int .i64 a0_0,.int .i64 a0_1] 79 (0,0)) (by (with_reducible repeat (first|apply bN|apply bd|apply bA));exact BK162.out) hb);have n1_:=Aside0.mk (below_step (by repeat (first|(with_reducible first|exact HB.out|apply below_alloc|apply pw_below_drewN|apply below_drew1|refine below_set ?_ GE162.out)|exact HB.out)) hb);have n2_:=Aside0.mk (hbox);have n3_:=Aside0.mk ((by rw [hg];exact (below_size (by repeat (first|(with_reducible first|exact HB.out|apply below_alloc|apply pw_below_drewN|apply below_drew1|refine below_set ?_ GE162.out)|exact HB.out))):w.heap.size ≤ gb163));have n4_:=Aside0.mk ((by rw [hg];exact (below_size (by repeat (first|(with_reducible first|exact HB.out|apply below_alloc|apply pw_below_drewN|apply below_drew1|refine below_set ?_ GE162.out)|exact HB.out))):w.heap.size ≤ gb163));have n5_:=Aside0.mk ((by rw [hg];exact Nat.ne_of_lt (blk_lt (g:=gb162) (o:= .cells #[.int .i64 a0_0,.int .i64 a0_1] 79 (0,0)) (by (with_reducible repeat (first|apply bN|apply bd|apply bA));exact BK162.out)):gb162 ≠ gb163));have n6_:=Aside0.mk ((by rw [hg];exact Nat.ne_of_gt (blk_lt (g:=gb162) (o:= .cells #[.int .i64 a0_0,.int .i64 a0_1] 79 (0,0)) (by (with_reducible repeat (first|apply bN|apply bd|apply bA));exact BK162.out)):gb163 ≠ gb162));clear BK162;clear HB;have BK162:=n0_;have HB:=n1_;have BK163:=n2_;have GW163:=n3_;have GE163:=n4_;have NB162_163:=n5_;have NB163_162:=n6_;clear n0_ n1_ n2_ n3_ n4_ n5_ n6_;clear hb hbox hg;have hnb7:=NB162_163.out;have hnc7:=NB163_162.out;have hcz8_0:w6.cell? ⟨gb162,0,none⟩=some (.int .i64 a0_0):=(blk_cell BK162.out 0).trans rfl;have hcz8_1:w6.cell? ⟨gb162,1,none⟩=some (.int .i64 a0_1):=(blk_cell BK162.out 1).trans rfl;have hfz8_0:=blk_frozen BK162.out 0;have hfz8_1:=blk_frozen BK162.out 1;have hcz9_0:w6.cell? ⟨gb163,0,none⟩=some (.int .i64 a1_0):=(blk_cell BK163.out 0).trans rfl;have hcz9_1:w6.cell? ⟨gb163,1,none⟩=some (.int .i64 a1_1):=(blk_cell BK163.out 1).trans rfl;have hfz9_0:=blk_frozen BK163.out 0;have hfz9_1:=blk_frozen BK163.out 1))
      go_ret
      exact ⟨by first|rfl|(simp [errW_none,errW_some] <;> rfl)|(simp [*,errW_none,errW_some] <;> rfl),by repeat (first|(with_reducible first|exact HB.out|apply below_alloc|apply pw_below_drewN|apply below_drew1|refine below_set ?_ GE162.out|refine below_set ?_ GE163.out)|exact HB.out)⟩
    · rw [if_neg c4] at H
      have c4b0:(a0_1==a1_1)=false:=beq_eq_false_iff_ne.mpr c4
      have c4b1:(a0_1 !=a1_1)=true:=bne_iff_ne.mpr c4
      obtain rfl:=Option.some.inj H
      go_enter Try.func71,Try.ntmps71
      go_wp2_with (first|((with_reducible refine gate_dst (N:=2) rfl ?_);refine box_event ?hg (N:=2) ?hd (cs:= #[.int .i64 a0_0,.int .i64 a0_1]) (t:=79) ?hr ?_;(case hd=> rfl);(case hg=> rfl);(case hr=> first|(go_simp;done)|(go_simp;rfl));intro gb162 hg w10 hbox hb;have n0_:=Aside0.mk (below_step (by repeat (first|(with_reducible first|exact HB.out|apply below_alloc|apply pw_below_drewN|apply below_drew1)|exact HB.out)) hb);have n1_:=Aside0.mk (hbox);have n2_:=Aside0.mk ((by rw [hg];exact (below_size (by repeat (first|(with_reducible first|exact HB.out|apply below_alloc|apply pw_below_drewN|apply below_drew1)|exact HB.out))):w.heap.size ≤ gb162));have n3_:=Aside0.mk ((by rw [hg];exact (below_size (by repeat (first|(with_reducible first|exact HB.out|apply below_alloc|apply pw_below_drewN|apply below_drew1)|exact HB.out))):w.heap.size ≤ gb162));clear HB;have HB:=n0_;have BK162:=n1_;have GW162:=n2_;have GE162:=n3_;clear n0_ n1_ n2_ n3_;clear hb hbox hg)|((with_reducible refine gate_dst (N:=3) rfl ?_);refine box_event ?hg (N:=3) ?hd (cs:= #[.int .i64 a1_0,.int .i64 a1_1]) (t:=79) ?hr ?_;(case hd=> rfl);(case hg=> rfl);(case hr=> first|(go_simp;done)|(go_simp;rfl));intro gb163 hg w11 hbox hb;have n0_:=Aside0.mk (blk_below (g:=gb162) (o:= .cells #[.int .i64 a0_0,.int .i64 a0_1] 79 (0,0)) (by (with_reducible repeat (first|apply bN|apply bd|apply bA));exact BK162.out) hb);have n1_:=Aside0.mk (below_step (by repeat (first|(with_reducible first|exact HB.out|apply below_alloc|apply pw_below_drewN|apply below_drew1|refine below_set ?_ GE162.out)|exact HB.out)) hb);have n2_:=Aside0.mk (hbox);have n3_:=Aside0.mk ((by rw [hg];exact (below_size (by repeat (first|(with_reducible first|exact HB.out|apply below_alloc|apply pw_below_drewN|apply below_drew1|refine below_set ?_ GE162.out)|exact HB.out))):w.heap.size ≤ gb163));have n4_:=Aside0.mk ((by rw [hg];exact (below_size (by repeat (first|(with_reducible first|exact HB.out|apply below_alloc|apply pw_below_drewN|apply below_drew1|refine below_set ?_ GE162.out)|exact HB.out))):w.heap.size ≤ gb163));have n5_:=Aside0.mk ((by rw [hg];exact Nat.ne_of_lt (blk_lt (g:=gb162) (o:= .cells #[.int .i64 a0_0,.int .i64 a0_1] 79 (0,0)) (by (with_reducible repeat (first|apply bN|apply bd|apply bA));exact BK162.out)):gb162 ≠ gb163));have n6_:=Aside0.mk ((by rw [hg];exact Nat.ne_of_gt (blk_lt (g:=gb162) (o:= .cells #[.int .i64 a0_0,.int .i64 a0_1] 79 (0,0)) (by (with_reducible repeat (first|apply bN|apply bd|apply bA));exact BK162.out)):gb163 ≠ gb162));clear BK162;clear HB;have BK162:=n0_;have HB:=n1_;have BK163:=n2_;have GW163:=n3_;have GE163:=n4_;have NB162_163:=n5_;have NB163_162:=n6_;clear n0_ n1_ n2_ n3_ n4_ n5_ n6_;clear hb hbox hg;have hnb12:=NB162_163.out;have hnc12:=NB163_162.out;have hcz13_0:w11.cell? ⟨gb162,0,none⟩=some (.int .i64 a0_0):=(blk_cell BK162.out 0).trans rfl;have hcz13_1:w11.cell? ⟨gb162,1,none⟩=some (.int .i64 a0_1):=(blk_cell BK162.out 1).trans rfl;have hfz13_0:=blk_frozen BK162.out 0;have hfz13_1:=blk_frozen BK162.out 1;have hcz14_0:w11.cell? ⟨gb163,0,none⟩=some (.int .i64 a1_0):=(blk_cell BK163.out 0).trans rfl;have hcz14_1:w11.cell? ⟨gb163,1,none⟩=some (.int .i64 a1_1):=(blk_cell BK163.out 1).trans rfl;have hfz14_0:=blk_frozen BK163.out 0;have hfz14_1:=blk_frozen BK163.out 1))
      go_ret
      exact ⟨by first|rfl|(simp [errW_none,errW_some] <;> rfl)|(simp [*,errW_none,errW_some] <;> rfl),by repeat (first|(with_reducible first|exact HB.out|apply below_alloc|apply pw_below_drewN|apply below_drew1|refine below_set ?_ GE162.out|refine below_set ?_ GE163.out)|exact HB.out)⟩
  · rw [if_neg c3] at H
    have c3b0:(a0_0==a1_0)=false:=beq_eq_false_iff_ne.mpr c3
    have c3b1:(a0_0 !=a1_0)=true:=bne_iff_ne.mpr c3
    obtain rfl:=Option.some.inj H
    go_enter Try.func71,Try.ntmps71
    go_wp2_with (first|((with_reducible refine gate_dst (N:=2) rfl ?_);refine box_event ?hg (N:=2) ?hd (cs:= #[.int .i64 a0_0,.int .i64 a0_1]) (t:=79) ?hr ?_;(case hd=> rfl);(case hg=> rfl);(case hr=> first|(go_simp;done)|(go_simp;rfl));intro gb162 hg w15 hbox hb;have n0_:=Aside0.mk (below_step (by repeat (first|(with_reducible first|exact HB.out|apply below_alloc|apply pw_below_drewN|apply below_drew1)|exact HB.out)) hb);have n1_:=Aside0.mk (hbox);have n2_:=Aside0.mk ((by rw [hg];exact (below_size (by repeat (first|(with_reducible first|exact HB.out|apply below_alloc|apply pw_below_drewN|apply below_drew1)|exact HB.out))):w.heap.size ≤ gb162));have n3_:=Aside0.mk ((by rw [hg];exact (below_size (by repeat (first|(with_reducible first|exact HB.out|apply below_alloc|apply pw_below_drewN|apply below_drew1)|exact HB.out))):w.heap.size ≤ gb162));clear HB;have HB:=n0_;have BK162:=n1_;have GW162:=n2_;have GE162:=n3_;clear n0_ n1_ n2_ n3_;clear hb hbox hg)|((with_reducible refine gate_dst (N:=3) rfl ?_);refine box_event ?hg (N:=3) ?hd (cs:= #[.int .i64 a1_0,.int .i64 a1_1]) (t:=79) ?hr ?_;(case hd=> rfl);(case hg=> rfl);(case hr=> first|(go_simp;done)|(go_simp;rfl));intro gb163 hg w16 hbox hb;have n0_:=Aside0.mk (blk_below (g:=gb162) (o:= .cells #[.int .i64 a0_0,.int .i64 a0_1] 79 (0,0)) (by (with_reducible repeat (first|apply bN|apply bd|apply bA));exact BK162.out) hb);have n1_:=Aside0.mk (below_step (by repeat (first|(with_reducible first|exact HB.out|apply below_alloc|apply pw_below_drewN|apply below_drew1|refine below_set ?_ GE162.out)|exact HB.out)) hb);have n2_:=Aside0.mk (hbox);have n3_:=Aside0.mk ((by rw [hg];exact (below_size (by repeat (first|(with_reducible first|exact HB.out|apply below_alloc|apply pw_below_drewN|apply below_drew1|refine below_set ?_ GE162.out)|exact HB.out))):w.heap.size ≤ gb163));have n4_:=Aside0.mk ((by rw [hg];exact (below_size (by repeat (first|(with_reducible first|exact HB.out|apply below_alloc|apply pw_below_drewN|apply below_drew1|refine below_set ?_ GE162.out)|exact HB.out))):w.heap.size ≤ gb163));have n5_:=Aside0.mk ((by rw [hg];exact Nat.ne_of_lt (blk_lt (g:=gb162) (o:= .cells #[.int .i64 a0_0,.int .i64 a0_1] 79 (0,0)) (by (with_reducible repeat (first|apply bN|apply bd|apply bA));exact BK162.out)):gb162 ≠ gb163));have n6_:=Aside0.mk ((by rw [hg];exact Nat.ne_of_gt (blk_lt (g:=gb162) (o:= .cells #[.int .i64 a0_0,.int .i64 a0_1] 79 (0,0)) (by (with_reducible repeat (first|apply bN|apply bd|apply bA));exact BK162.out)):gb163 ≠ gb162));clear BK162;clear HB;have BK162:=n0_;have HB:=n1_;have BK163:=n2_;have GW163:=n3_;have GE163:=n4_;have NB162_163:=n5_;have NB163_162:=n6_;clear n0_ n1_ n2_ n3_ n4_ n5_ n6_;clear hb hbox hg;have hnb17:=NB162_163.out;have hnc17:=NB163_162.out;have hcz18_0:w16.cell? ⟨gb162,0,none⟩=some (.int .i64 a0_0):=(blk_cell BK162.out 0).trans rfl;have hcz18_1:w16.cell? ⟨gb162,1,none⟩=some (.int .i64 a0_1):=(blk_cell BK162.out 1).trans rfl;have hfz18_0:=blk_frozen BK162.out 0;have hfz18_1:=blk_frozen BK162.out 1;have hcz19_0:w16.cell? ⟨gb163,0,none⟩=some (.int .i64 a1_0):=(blk_cell BK163.out 0).trans rfl;have hcz19_1:w16.cell? ⟨gb163,1,none⟩=some (.int .i64 a1_1):=(blk_cell BK163.out 1).trans rfl;have hfz19_0:=blk_frozen BK163.out 0;have hfz19_1:=blk_frozen BK163.out 1))
    go_ret
    exact ⟨by first|rfl|(simp [errW_none,errW_some] <;> rfl)|(simp [*,errW_none,errW_some] <;> rfl),by repeat (first|(with_reducible first|exact HB.out|apply below_alloc|apply pw_below_drewN|apply below_drew1|refine below_set ?_ GE162.out|refine below_set ?_ GE163.out)|exact HB.out)⟩
end Go.Proofs.Ytlogocmojnhpbaa.Print
