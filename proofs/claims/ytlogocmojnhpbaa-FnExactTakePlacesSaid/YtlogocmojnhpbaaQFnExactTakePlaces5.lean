-- Packed by a program of this session (slim.py) out of printed texts; not trusted, Lean checks it.
import Derived.Test.YtlogocmojnhpbaaP0
import Derived.Test.YtlogocmojnhpbaaQFnExactTakePlaces4
namespace Go.Proofs.Ytlogocmojnhpbaa.Print
open Go.RowKit Go.Proofs.YtlogocmojnhpbaaW.PrintWords Go.Proofs.YtlogocmojnhpbaaW.PrintLast Go.Proofs.YtlogocmojnhpbaaW.PrintMore
attribute [local go_sem] max2_int min2_int max_two min_two max_three min_three max_four min_four
set_option linter.unusedVariables false
set_option linter.unusedSimpArgs false
def spec_SourceOK.f (k:Nat) (l0_0:List (S79)) (a0_1:Int) (a0_2:ByteArray) (a0_3:Int):Option (Bool):=if (l0_0.length:Int) ≤ 64 then ((spec_l02List.f k l0_0).bind fun t302=> (if t302=true then ((spec_l01In.f a0_1 0 1000000).bind fun t303=> (if t303=true then (if (a0_2.size:Int)=32 then ((spec_l01In.f a0_3 0 1000000).bind fun t304=> (some t304)) else (some false)) else (some false))) else (some false))) else (some false)
theorem spec_SourceOK.mono:∀ a0 a1 a2 a3 k,LeO (spec_SourceOK.f k a0 a1 a2 a3) (spec_SourceOK.f (k + 1) a0 a1 a2 a3):=by
  intro a0 a1 a2 a3 k
  unfold spec_SourceOK.f
  repeat' first
      |(with_reducible exact spec_l02List.mono _ _)
      |(with_reducible exact LeO.refl _)
      |(with_reducible exact LeO.none _)
      |(with_reducible refine LeO.ite ?_ ?_)
      |(with_reducible refine LeO.bind ?_ (fun _=> ?_))
      |exact spec_l02List.mono _ _
      |exact LeO.none _
      |refine LeO.ite ?_ ?_
      |refine LeO.bind ?_ (fun _=> ?_)
set_option maxHeartbeats 8000000 in
set_option maxRecDepth 100000 in
theorem spec_SourceOK.calls (k:Nat) (A0_0:Option Addr) (c0_0:Nat) (l0_0:List (S79)) (a0_1:Int) (a0_2:ByteArray) (a0_3:Int) (r:Bool) (w:World) (hr0_0:Kd.C k79 w A0_0 l0_0.length l0_0) (hc0_0:l0_0.length ≤ c0_0) (h:spec_SourceOK.f k l0_0 a0_1 a0_2 a0_3=some r):
    Calls Try.prog 114 #[.agg #[.slice A0_0 l0_0.length c0_0,.int .i64 a0_1,.string a0_2,.int .i64 a0_3]] w fun e w'=> e= .returned (.bool r) ∧ Below w.heap.size w w':=by
  have hu36:=Try.underlying36
  have HR0_0:=Aside0.mk hr0_0
  have HC0_0:=Aside0.mk hc0_0
  clear hr0_0 hc0_0
  have HB:=Aside0.mk (Below.refl w.heap.size w)
  have H:(if (l0_0.length:Int) ≤ 64 then ((spec_l02List.f k l0_0).bind fun t302=> (if t302=true then ((spec_l01In.f a0_1 0 1000000).bind fun t303=> (if t303=true then (if (a0_2.size:Int)=32 then ((spec_l01In.f a0_3 0 1000000).bind fun t304=> (some t304)) else (some false)) else (some false))) else (some false))) else (some false))=some r:=h
  clear h
  by_cases c2:(l0_0.length:Int) ≤ 64
  · rw [if_pos c2] at H
    have c2b0:decide ((l0_0.length:Int) ≤ 64)=true:=decide_eq_true c2
    have c2b1:decide (l0_0.length ≤ 64)=true:=decide_eq_true (by omega)
    clear c2
    replace H:=Option.bind_eq_some_iff.mp H
    obtain ⟨t302,A30,H⟩:=H
    replace H:(if t302=true then ((spec_l01In.f a0_1 0 1000000).bind fun t303=> (if t303=true then (if (a0_2.size:Int)=32 then ((spec_l01In.f a0_3 0 1000000).bind fun t304=> (some t304)) else (some false)) else (some false))) else (some false))=some r:=H
    have A3:=Aside0.mk A30
    clear A30
    by_cases c4:t302=true
    · subst c4
      have H1:((spec_l01In.f a0_1 0 1000000).bind fun t303=> (if t303=true then (if (a0_2.size:Int)=32 then ((spec_l01In.f a0_3 0 1000000).bind fun t304=> (some t304)) else (some false)) else (some false)))=some r:=by rw [if_pos rfl] at H;exact H
      clear H
      have H:=H1
      clear H1
      replace H:=Option.bind_eq_some_iff.mp H
      obtain ⟨t303,A50,H⟩:=H
      replace H:(if t303=true then (if (a0_2.size:Int)=32 then ((spec_l01In.f a0_3 0 1000000).bind fun t304=> (some t304)) else (some false)) else (some false))=some r:=H
      have A5:=Aside0.mk A50
      clear A50
      by_cases c6:t303=true
      · subst c6
        have H1:(if (a0_2.size:Int)=32 then ((spec_l01In.f a0_3 0 1000000).bind fun t304=> (some t304)) else (some false))=some r:=by rw [if_pos rfl] at H;exact H
        clear H
        have H:=H1
        clear H1
        by_cases c7:(a0_2.size:Int)=32
        · rw [if_pos c7] at H
          have c7b0:((a0_2.size:Int)==32)=true:=beq_iff_eq.mpr c7
          have c7b1:((a0_2.size:Int) !=32)=false:=bne_eq_false_iff_eq.mpr c7
          clear c7
          replace H:=Option.bind_eq_some_iff.mp H
          obtain ⟨t304,A80,H⟩:=H
          replace H:(some t304)=some r:=H
          have A8:=Aside0.mk A80
          clear A80
          obtain rfl:=Option.some.inj H
          go_enter Try.func114,Try.ntmps114
          go_wp2_with (first|((with_reducible refine gate_dst (N:=1) rfl ?_);(try (refine gate_guard (by rfl) ?_;dsimp only));refine box_event ?hg (N:=1) ?hd (cs:= #[.slice A0_0 l0_0.length c0_0,.int .i64 a0_1,.string a0_2,.int .i64 a0_3]) (t:=36) ?hr ?_;(case hd=> rfl);(case hg=> rfl);(case hr=> first|(go_simp;done)|(go_simp;rfl));intro gb301 hg w9 hbox hb;have n0_:=Aside0.mk (below_step (by repeat (first|(with_reducible first|exact HB.out|apply bwA|apply bwN|apply bwD)|exact HB.out)) hb);have n1_:=Aside0.mk (hbox);have n2_:=Aside0.mk ((by rw [hg];exact (below_size (by repeat (first|(with_reducible first|exact HB.out|apply bwA|apply bwN|apply bwD)|exact HB.out))):w.heap.size ≤ gb301));have n3_:=Aside0.mk ((by rw [hg];exact (below_size (by repeat (first|(with_reducible first|exact HB.out|apply bwA|apply bwN|apply bwD)|exact HB.out))):w.heap.size ≤ gb301));clear HB;have HB:=n0_;have BK301:=n1_;have GW301:=n2_;have GE301:=n3_;clear n0_ n1_ n2_ n3_;clear hb hbox hg;have hcz10_0:w9.cell? ⟨gb301,0,none⟩=some (.slice A0_0 l0_0.length c0_0):=(blk_cell BK301.out 0).trans rfl;have hcz10_1:w9.cell? ⟨gb301,1,none⟩=some (.int .i64 a0_1):=(blk_cell BK301.out 1).trans rfl;have hcz10_2:w9.cell? ⟨gb301,2,none⟩=some (.string a0_2):=(blk_cell BK301.out 2).trans rfl;have hcz10_3:w9.cell? ⟨gb301,3,none⟩=some (.int .i64 a0_3):=(blk_cell BK301.out 3).trans rfl;have hfz10_0:=blk_frozen BK301.out 0;have hfz10_1:=blk_frozen BK301.out 1;have hfz10_2:=blk_frozen BK301.out 2;have hfz10_3:=blk_frozen BK301.out 3)|(go_at_call 120;(with_reducible refine (spec_l02List.calls k _ _ l0_0 true _ ?side1 ?side2 A3.out).mono ?_);(case side1=> repeat (first|exact (Kd.C_below HR0_0.out HB.out)|(with_reducible refine Kd.C_alloc ?_ _)|(with_reducible refine Kd.C_drewN ?_ _)|(with_reducible refine Kd.C_drew ?_)));(case side2=> exact HC0_0.out);rintro e w11 ⟨rfl,hb⟩;have n0_:=Aside0.mk (blk_below (g:=gb301) (o:= .cells #[.slice A0_0 l0_0.length c0_0,.int .i64 a0_1,.string a0_2,.int .i64 a0_3] 36 (0,0)) (by (with_reducible repeat (first|apply bN|apply bd|apply bA));exact BK301.out) hb);have n1_:=Aside0.mk (below_step (by repeat (first|(with_reducible first|exact HB.out|apply bwA|apply bwN|apply bwD|refine bwS ?_ GE301.out)|exact HB.out)) hb);clear BK301;clear HB;have BK301:=n0_;have HB:=n1_;clear n0_ n1_;(try clear hb);(try clear hb2);(try clear hk);(try clear hi);have hcz12_0:w11.cell? ⟨gb301,0,none⟩=some (.slice A0_0 l0_0.length c0_0):=(blk_cell BK301.out 0).trans rfl;have hcz12_1:w11.cell? ⟨gb301,1,none⟩=some (.int .i64 a0_1):=(blk_cell BK301.out 1).trans rfl;have hcz12_2:w11.cell? ⟨gb301,2,none⟩=some (.string a0_2):=(blk_cell BK301.out 2).trans rfl;have hcz12_3:w11.cell? ⟨gb301,3,none⟩=some (.int .i64 a0_3):=(blk_cell BK301.out 3).trans rfl;have hfz12_0:=blk_frozen BK301.out 0;have hfz12_1:=blk_frozen BK301.out 1;have hfz12_2:=blk_frozen BK301.out 2;have hfz12_3:=blk_frozen BK301.out 3)|(go_at_call 103;(with_reducible refine (spec_l01In.calls a0_1 0 1000000 true _ A5.out).mono ?_);rintro e w' ⟨rfl,⟨nd,rfl⟩⟩)|(go_at_call 103;(with_reducible refine (spec_l01In.calls a0_3 0 1000000 t304 _ A8.out).mono ?_);rintro e w' ⟨rfl,⟨nd,rfl⟩⟩))
          go_ret
          exact ⟨by first|rfl|(simp [errW_none,errW_some] <;> rfl)|(simp [*,errW_none,errW_some] <;> rfl),by repeat (first|(with_reducible first|exact HB.out|apply bwA|apply bwN|apply bwD|refine bwS ?_ GE301.out)|exact HB.out)⟩
        · rw [if_neg c7] at H
          have c7b0:((a0_2.size:Int)==32)=false:=beq_eq_false_iff_ne.mpr c7
          have c7b1:((a0_2.size:Int) !=32)=true:=bne_iff_ne.mpr c7
          obtain rfl:=Option.some.inj H
          go_enter Try.func114,Try.ntmps114
          go_wp2_with (first|((with_reducible refine gate_dst (N:=1) rfl ?_);(try (refine gate_guard (by rfl) ?_;dsimp only));refine box_event ?hg (N:=1) ?hd (cs:= #[.slice A0_0 l0_0.length c0_0,.int .i64 a0_1,.string a0_2,.int .i64 a0_3]) (t:=36) ?hr ?_;(case hd=> rfl);(case hg=> rfl);(case hr=> first|(go_simp;done)|(go_simp;rfl));intro gb301 hg w13 hbox hb;have n0_:=Aside0.mk (below_step (by repeat (first|(with_reducible first|exact HB.out|apply bwA|apply bwN|apply bwD)|exact HB.out)) hb);have n1_:=Aside0.mk (hbox);have n2_:=Aside0.mk ((by rw [hg];exact (below_size (by repeat (first|(with_reducible first|exact HB.out|apply bwA|apply bwN|apply bwD)|exact HB.out))):w.heap.size ≤ gb301));have n3_:=Aside0.mk ((by rw [hg];exact (below_size (by repeat (first|(with_reducible first|exact HB.out|apply bwA|apply bwN|apply bwD)|exact HB.out))):w.heap.size ≤ gb301));clear HB;have HB:=n0_;have BK301:=n1_;have GW301:=n2_;have GE301:=n3_;clear n0_ n1_ n2_ n3_;clear hb hbox hg;have hcz14_0:w13.cell? ⟨gb301,0,none⟩=some (.slice A0_0 l0_0.length c0_0):=(blk_cell BK301.out 0).trans rfl;have hcz14_1:w13.cell? ⟨gb301,1,none⟩=some (.int .i64 a0_1):=(blk_cell BK301.out 1).trans rfl;have hcz14_2:w13.cell? ⟨gb301,2,none⟩=some (.string a0_2):=(blk_cell BK301.out 2).trans rfl;have hcz14_3:w13.cell? ⟨gb301,3,none⟩=some (.int .i64 a0_3):=(blk_cell BK301.out 3).trans rfl;have hfz14_0:=blk_frozen BK301.out 0;have hfz14_1:=blk_frozen BK301.out 1;have hfz14_2:=blk_frozen BK301.out 2;have hfz14_3:=blk_frozen BK301.out 3)|(go_at_call 120;(with_reducible refine (spec_l02List.calls k _ _ l0_0 true _ ?side1 ?side2 A3.out).mono ?_);(case side1=> repeat (first|exact (Kd.C_below HR0_0.out HB.out)|(with_reducible refine Kd.C_alloc ?_ _)|(with_reducible refine Kd.C_drewN ?_ _)|(with_reducible refine Kd.C_drew ?_)));(case side2=> exact HC0_0.out);rintro e w15 ⟨rfl,hb⟩;have n0_:=Aside0.mk (blk_below (g:=gb301) (o:= .cells #[.slice A0_0 l0_0.length c0_0,.int .i64 a0_1,.string a0_2,.int .i64 a0_3] 36 (0,0)) (by (with_reducible repeat (first|apply bN|apply bd|apply bA));exact BK301.out) hb);have n1_:=Aside0.mk (below_step (by repeat (first|(with_reducible first|exact HB.out|apply bwA|apply bwN|apply bwD|refine bwS ?_ GE301.out)|exact HB.out)) hb);clear BK301;clear HB;have BK301:=n0_;have HB:=n1_;clear n0_ n1_;(try clear hb);(try clear hb2);(try clear hk);(try clear hi);have hcz16_0:w15.cell? ⟨gb301,0,none⟩=some (.slice A0_0 l0_0.length c0_0):=(blk_cell BK301.out 0).trans rfl;have hcz16_1:w15.cell? ⟨gb301,1,none⟩=some (.int .i64 a0_1):=(blk_cell BK301.out 1).trans rfl;have hcz16_2:w15.cell? ⟨gb301,2,none⟩=some (.string a0_2):=(blk_cell BK301.out 2).trans rfl;have hcz16_3:w15.cell? ⟨gb301,3,none⟩=some (.int .i64 a0_3):=(blk_cell BK301.out 3).trans rfl;have hfz16_0:=blk_frozen BK301.out 0;have hfz16_1:=blk_frozen BK301.out 1;have hfz16_2:=blk_frozen BK301.out 2;have hfz16_3:=blk_frozen BK301.out 3)|(go_at_call 103;(with_reducible refine (spec_l01In.calls a0_1 0 1000000 true _ A5.out).mono ?_);rintro e w' ⟨rfl,⟨nd,rfl⟩⟩))
          go_ret
          exact ⟨by first|rfl|(simp [errW_none,errW_some] <;> rfl)|(simp [*,errW_none,errW_some] <;> rfl),by repeat (first|(with_reducible first|exact HB.out|apply bwA|apply bwN|apply bwD|refine bwS ?_ GE301.out)|exact HB.out)⟩
      · replace c6:=Bool.eq_false_iff.mpr c6
        subst c6
        have H1:(some false)=some r:=by rw [if_neg (show ¬ (false=true) by decide)] at H;exact H
        clear H
        have H:=H1
        clear H1
        obtain rfl:=Option.some.inj H
        go_enter Try.func114,Try.ntmps114
        go_wp2_with (first|((with_reducible refine gate_dst (N:=1) rfl ?_);(try (refine gate_guard (by rfl) ?_;dsimp only));refine box_event ?hg (N:=1) ?hd (cs:= #[.slice A0_0 l0_0.length c0_0,.int .i64 a0_1,.string a0_2,.int .i64 a0_3]) (t:=36) ?hr ?_;(case hd=> rfl);(case hg=> rfl);(case hr=> first|(go_simp;done)|(go_simp;rfl));intro gb301 hg w17 hbox hb;have n0_:=Aside0.mk (below_step (by repeat (first|(with_reducible first|exact HB.out|apply bwA|apply bwN|apply bwD)|exact HB.out)) hb);have n1_:=Aside0.mk (hbox);have n2_:=Aside0.mk ((by rw [hg];exact (below_size (by repeat (first|(with_reducible first|exact HB.out|apply bwA|apply bwN|apply bwD)|exact HB.out))):w.heap.size ≤ gb301));have n3_:=Aside0.mk ((by rw [hg];exact (below_size (by repeat (first|(with_reducible first|exact HB.out|apply bwA|apply bwN|apply bwD)|exact HB.out))):w.heap.size ≤ gb301));clear HB;have HB:=n0_;have BK301:=n1_;have GW301:=n2_;have GE301:=n3_;clear n0_ n1_ n2_ n3_;clear hb hbox hg;have hcz18_0:w17.cell? ⟨gb301,0,none⟩=some (.slice A0_0 l0_0.length c0_0):=(blk_cell BK301.out 0).trans rfl;have hcz18_1:w17.cell? ⟨gb301,1,none⟩=some (.int .i64 a0_1):=(blk_cell BK301.out 1).trans rfl;have hcz18_2:w17.cell? ⟨gb301,2,none⟩=some (.string a0_2):=(blk_cell BK301.out 2).trans rfl;have hcz18_3:w17.cell? ⟨gb301,3,none⟩=some (.int .i64 a0_3):=(blk_cell BK301.out 3).trans rfl;have hfz18_0:=blk_frozen BK301.out 0;have hfz18_1:=blk_frozen BK301.out 1;have hfz18_2:=blk_frozen BK301.out 2;have hfz18_3:=blk_frozen BK301.out 3)|(go_at_call 120;(with_reducible refine (spec_l02List.calls k _ _ l0_0 true _ ?side1 ?side2 A3.out).mono ?_);(case side1=> repeat (first|exact (Kd.C_below HR0_0.out HB.out)|(with_reducible refine Kd.C_alloc ?_ _)|(with_reducible refine Kd.C_drewN ?_ _)|(with_reducible refine Kd.C_drew ?_)));(case side2=> exact HC0_0.out);rintro e w19 ⟨rfl,hb⟩;have n0_:=Aside0.mk (blk_below (g:=gb301) (o:= .cells #[.slice A0_0 l0_0.length c0_0,.int .i64 a0_1,.string a0_2,.int .i64 a0_3] 36 (0,0)) (by (with_reducible repeat (first|apply bN|apply bd|apply bA));exact BK301.out) hb);have n1_:=Aside0.mk (below_step (by repeat (first|(with_reducible first|exact HB.out|apply bwA|apply bwN|apply bwD|refine bwS ?_ GE301.out)|exact HB.out)) hb);clear BK301;clear HB;have BK301:=n0_;have HB:=n1_;clear n0_ n1_;(try clear hb);(try clear hb2);(try clear hk);(try clear hi);have hcz20_0:w19.cell? ⟨gb301,0,none⟩=some (.slice A0_0 l0_0.length c0_0):=(blk_cell BK301.out 0).trans rfl;have hcz20_1:w19.cell? ⟨gb301,1,none⟩=some (.int .i64 a0_1):=(blk_cell BK301.out 1).trans rfl;have hcz20_2:w19.cell? ⟨gb301,2,none⟩=some (.string a0_2):=(blk_cell BK301.out 2).trans rfl;have hcz20_3:w19.cell? ⟨gb301,3,none⟩=some (.int .i64 a0_3):=(blk_cell BK301.out 3).trans rfl;have hfz20_0:=blk_frozen BK301.out 0;have hfz20_1:=blk_frozen BK301.out 1;have hfz20_2:=blk_frozen BK301.out 2;have hfz20_3:=blk_frozen BK301.out 3)|(go_at_call 103;(with_reducible refine (spec_l01In.calls a0_1 0 1000000 false _ A5.out).mono ?_);rintro e w' ⟨rfl,⟨nd,rfl⟩⟩))
        go_ret
        exact ⟨by first|rfl|(simp [errW_none,errW_some] <;> rfl)|(simp [*,errW_none,errW_some] <;> rfl),by repeat (first|(with_reducible first|exact HB.out|apply bwA|apply bwN|apply bwD|refine bwS ?_ GE301.out)|exact HB.out)⟩
    · replace c4:=Bool.eq_false_iff.mpr c4
      subst c4
      have H1:(some false)=some r:=by rw [if_neg (show ¬ (false=true) by decide)] at H;exact H
      clear H
      have H:=H1
      clear H1
      obtain rfl:=Option.some.inj H
      go_enter Try.func114,Try.ntmps114
      go_wp2_with (first|((with_reducible refine gate_dst (N:=1) rfl ?_);(try (refine gate_guard (by rfl) ?_;dsimp only));refine box_event ?hg (N:=1) ?hd (cs:= #[.slice A0_0 l0_0.length c0_0,.int .i64 a0_1,.string a0_2,.int .i64 a0_3]) (t:=36) ?hr ?_;(case hd=> rfl);(case hg=> rfl);(case hr=> first|(go_simp;done)|(go_simp;rfl));intro gb301 hg w21 hbox hb;have n0_:=Aside0.mk (below_step (by repeat (first|(with_reducible first|exact HB.out|apply bwA|apply bwN|apply bwD)|exact HB.out)) hb);have n1_:=Aside0.mk (hbox);have n2_:=Aside0.mk ((by rw [hg];exact (below_size (by repeat (first|(with_reducible first|exact HB.out|apply bwA|apply bwN|apply bwD)|exact HB.out))):w.heap.size ≤ gb301));have n3_:=Aside0.mk ((by rw [hg];exact (below_size (by repeat (first|(with_reducible first|exact HB.out|apply bwA|apply bwN|apply bwD)|exact HB.out))):w.heap.size ≤ gb301));clear HB;have HB:=n0_;have BK301:=n1_;have GW301:=n2_;have GE301:=n3_;clear n0_ n1_ n2_ n3_;clear hb hbox hg;have hcz22_0:w21.cell? ⟨gb301,0,none⟩=some (.slice A0_0 l0_0.length c0_0):=(blk_cell BK301.out 0).trans rfl;have hcz22_1:w21.cell? ⟨gb301,1,none⟩=some (.int .i64 a0_1):=(blk_cell BK301.out 1).trans rfl;have hcz22_2:w21.cell? ⟨gb301,2,none⟩=some (.string a0_2):=(blk_cell BK301.out 2).trans rfl;have hcz22_3:w21.cell? ⟨gb301,3,none⟩=some (.int .i64 a0_3):=(blk_cell BK301.out 3).trans rfl;have hfz22_0:=blk_frozen BK301.out 0;have hfz22_1:=blk_frozen BK301.out 1;have hfz22_2:=blk_frozen BK301.out 2;have hfz22_3:=blk_frozen BK301.out 3)|(go_at_call 120;(with_reducible refine (spec_l02List.calls k _ _ l0_0 false _ ?side1 ?side2 A3.out).mono ?_);(case side1=> repeat (first|exact (Kd.C_below HR0_0.out HB.out)|(with_reducible refine Kd.C_alloc ?_ _)|(with_reducible refine Kd.C_drewN ?_ _)|(with_reducible refine Kd.C_drew ?_)));(case side2=> exact HC0_0.out);rintro e w23 ⟨rfl,hb⟩;have n0_:=Aside0.mk (blk_below (g:=gb301) (o:= .cells #[.slice A0_0 l0_0.length c0_0,.int .i64 a0_1,.string a0_2,.int .i64 a0_3] 36 (0,0)) (by (with_reducible repeat (first|apply bN|apply bd|apply bA));exact BK301.out) hb);have n1_:=Aside0.mk (below_step (by repeat (first|(with_reducible first|exact HB.out|apply bwA|apply bwN|apply bwD|refine bwS ?_ GE301.out)|exact HB.out)) hb);clear BK301;clear HB;have BK301:=n0_;have HB:=n1_;clear n0_ n1_;(try clear hb);(try clear hb2);(try clear hk);(try clear hi)))
      go_ret
      exact ⟨by first|rfl|(simp [errW_none,errW_some] <;> rfl)|(simp [*,errW_none,errW_some] <;> rfl),by repeat (first|(with_reducible first|exact HB.out|apply bwA|apply bwN|apply bwD|refine bwS ?_ GE301.out)|exact HB.out)⟩
  · rw [if_neg c2] at H
    have c2b0:decide ((l0_0.length:Int) ≤ 64)=false:=decide_eq_false c2
    have c2b1:decide (l0_0.length ≤ 64)=false:=decide_eq_false (by omega)
    clear c2
    obtain rfl:=Option.some.inj H
    go_enter Try.func114,Try.ntmps114
    go_wp2_with (first|((with_reducible refine gate_dst (N:=1) rfl ?_);(try (refine gate_guard (by rfl) ?_;dsimp only));refine box_event ?hg (N:=1) ?hd (cs:= #[.slice A0_0 l0_0.length c0_0,.int .i64 a0_1,.string a0_2,.int .i64 a0_3]) (t:=36) ?hr ?_;(case hd=> rfl);(case hg=> rfl);(case hr=> first|(go_simp;done)|(go_simp;rfl));intro gb301 hg w24 hbox hb;have n0_:=Aside0.mk (below_step (by repeat (first|(with_reducible first|exact HB.out|apply bwA|apply bwN|apply bwD)|exact HB.out)) hb);have n1_:=Aside0.mk (hbox);have n2_:=Aside0.mk ((by rw [hg];exact (below_size (by repeat (first|(with_reducible first|exact HB.out|apply bwA|apply bwN|apply bwD)|exact HB.out))):w.heap.size ≤ gb301));have n3_:=Aside0.mk ((by rw [hg];exact (below_size (by repeat (first|(with_reducible first|exact HB.out|apply bwA|apply bwN|apply bwD)|exact HB.out))):w.heap.size ≤ gb301));clear HB;have HB:=n0_;have BK301:=n1_;have GW301:=n2_;have GE301:=n3_;clear n0_ n1_ n2_ n3_;clear hb hbox hg;have hcz25_0:w24.cell? ⟨gb301,0,none⟩=some (.slice A0_0 l0_0.length c0_0):=(blk_cell BK301.out 0).trans rfl;have hcz25_1:w24.cell? ⟨gb301,1,none⟩=some (.int .i64 a0_1):=(blk_cell BK301.out 1).trans rfl;have hcz25_2:w24.cell? ⟨gb301,2,none⟩=some (.string a0_2):=(blk_cell BK301.out 2).trans rfl;have hcz25_3:w24.cell? ⟨gb301,3,none⟩=some (.int .i64 a0_3):=(blk_cell BK301.out 3).trans rfl;have hfz25_0:=blk_frozen BK301.out 0;have hfz25_1:=blk_frozen BK301.out 1;have hfz25_2:=blk_frozen BK301.out 2;have hfz25_3:=blk_frozen BK301.out 3))
    go_ret
    exact ⟨by first|rfl|(simp [errW_none,errW_some] <;> rfl)|(simp [*,errW_none,errW_some] <;> rfl),by repeat (first|(with_reducible first|exact HB.out|apply bwA|apply bwN|apply bwD|refine bwS ?_ GE301.out)|exact HB.out)⟩
def spec_l05Own.f (l0_0:List (S79)) (a0_1:Int) (a0_2:ByteArray) (a0_3:Int):Option ((List (S79)) × Int × ByteArray × Int):=(some (([]:List (S79)):List (S79))).bind fun y411=> (if y411.length + l0_0.length < 8796093022208 then (some ((y411 ++ l0_0),a0_1,a0_2,a0_3)) else (none))
set_option maxHeartbeats 8000000 in
set_option maxRecDepth 100000 in
theorem spec_l05Own.calls (A0_0:Option Addr) (c0_0:Nat) (l0_0:List (S79)) (a0_1:Int) (a0_2:ByteArray) (a0_3:Int) (r1:List (S79)) (r2:Int) (r3:ByteArray) (r4:Int) (w:World) (hr0_0:Kd.C k79 w A0_0 l0_0.length l0_0) (hc0_0:l0_0.length ≤ c0_0) (h:spec_l05Own.f l0_0 a0_1 a0_2 a0_3=some (r1,r2,r3,r4)):
    Calls Try.prog 125 #[.agg #[.slice A0_0 l0_0.length c0_0,.int .i64 a0_1,.string a0_2,.int .i64 a0_3]] w fun e w'=> ∃ v0_:Value,e= .returned (.agg #[v0_,.int .i64 r2,.string r3,.int .i64 r4]) ∧ Kd.R k79 79 w' w.heap.size (fun _=> True) v0_ r1 ∧ Below w.heap.size w w':=by
  have hu36:=Try.underlying36
  have HR0_0:=Aside0.mk hr0_0
  have HC0_0:=Aside0.mk hc0_0
  clear hr0_0 hc0_0
  have HB:=Aside0.mk (Below.refl w.heap.size w)
  have H:((some (([]:List (S79)):List (S79))).bind fun y411=> (if y411.length + l0_0.length < 8796093022208 then (some ((y411 ++ l0_0),a0_1,a0_2,a0_3)) else (none)))=some (r1,r2,r3,r4):=h
  clear h
  obtain ⟨y411,hy411⟩:∃ y_:List (S79),y_=(([]:List (S79))):=⟨_,rfl⟩
  replace H:(if y411.length + l0_0.length < 8796093022208 then (some ((y411 ++ l0_0),a0_1,a0_2,a0_3)) else (none))=some (r1,r2,r3,r4):=by first|(rw [hy411];with_reducible exact H)|(have H2_:=(Option.bind_some _ _).symm.trans H;rw [hy411];with_reducible exact H2_)|(have H2_:=(Option.bind_some _ _).symm.trans H;with_reducible exact H2_)|with_reducible exact H|(rw [hy411];exact H)|exact H
  have Ny411:=Aside0.mk hy411
  clear hy411
  by_cases c2:y411.length + l0_0.length < 8796093022208
  · rw [if_pos c2] at H
    have LMc2:=Aside0.mk c2
    clear c2
    obtain ⟨y414,hy414⟩:∃ y_:List (S79),y_=(y411 ++ l0_0):=⟨_,rfl⟩
    replace H:(some (y414,a0_1,a0_2,a0_3))=some (r1,r2,r3,r4):=by first|(rw [hy414];with_reducible exact H)|(have H2_:=(Option.bind_some _ _).symm.trans H;rw [hy414];with_reducible exact H2_)|(have H2_:=(Option.bind_some _ _).symm.trans H;with_reducible exact H2_)|with_reducible exact H|(rw [hy414];exact H)|exact H
    have Ny414:=Aside0.mk hy414
    clear hy414
    simp only [Option.some.injEq,Prod.mk.injEq] at H
    obtain ⟨rfl,rfl,rfl,rfl⟩:=H
    go_enter Try.func125,Try.ntmps125
    go_wp2_with (first|((with_reducible refine gate_dst (N:=1) rfl ?_);refine box_event ?hg (N:=1) ?hd (cs:= #[.slice A0_0 l0_0.length c0_0,.int .i64 a0_1,.string a0_2,.int .i64 a0_3]) (t:=36) ?hr ?_;(case hd=> rfl);(case hg=> rfl);(case hr=> first|(go_simp;done)|(go_simp;rfl));intro gb409 hg w3 hbox hb;have n0_:=Aside0.mk (below_step (by repeat (first|(with_reducible first|exact HB.out|apply bwA|apply bwN|apply bwD)|exact HB.out)) hb);have n1_:=Aside0.mk (hbox);have n2_:=Aside0.mk ((by rw [hg];exact (below_size (by repeat (first|(with_reducible first|exact HB.out|apply bwA|apply bwN|apply bwD)|exact HB.out))):w.heap.size ≤ gb409));have n3_:=Aside0.mk ((by rw [hg];exact (below_size (by repeat (first|(with_reducible first|exact HB.out|apply bwA|apply bwN|apply bwD)|exact HB.out))):w.heap.size ≤ gb409));clear HB;have HB:=n0_;have BK409:=n1_;have GW409:=n2_;have GE409:=n3_;clear n0_ n1_ n2_ n3_;clear hb hbox hg)|((with_reducible refine gate_dst (N:=2) rfl ?_);refine box_event ?hg (N:=2) ?hd (cs:= #[.slice none 0 0,.int .i64 0,.string (⟨#[]⟩:ByteArray),.int .i64 0]) (t:=36) ?hr ?_;(case hd=> rfl);(case hg=> rfl);(case hr=> first|(go_simp;done)|(go_simp;rfl));intro gb410 hg w4 hbox hb;have n0_:=Aside0.mk (blk_below (g:=gb409) (o:= .cells #[.slice A0_0 l0_0.length c0_0,.int .i64 a0_1,.string a0_2,.int .i64 a0_3] 36 (0,0)) (by (with_reducible repeat (first|apply bN|apply bd|apply bA));exact BK409.out) hb);have n1_:=Aside0.mk (below_step (by repeat (first|(with_reducible first|exact HB.out|apply bwA|apply bwN|apply bwD|refine bwS ?_ GE409.out)|exact HB.out)) hb);have n2_:=Aside0.mk (hbox);have n3_:=Aside0.mk ((by rw [hg];exact (below_size (by repeat (first|(with_reducible first|exact HB.out|apply bwA|apply bwN|apply bwD|refine bwS ?_ GE409.out)|exact HB.out))):w.heap.size ≤ gb410));have n4_:=Aside0.mk ((by rw [hg];exact (below_size (by repeat (first|(with_reducible first|exact HB.out|apply bwA|apply bwN|apply bwD|refine bwS ?_ GE409.out)|exact HB.out))):w.heap.size ≤ gb410));have n5_:=Aside0.mk ((by rw [hg];exact Nat.ne_of_lt (blk_lt (g:=gb409) (o:= .cells #[.slice A0_0 l0_0.length c0_0,.int .i64 a0_1,.string a0_2,.int .i64 a0_3] 36 (0,0)) (by (with_reducible repeat (first|apply bN|apply bd|apply bA));exact BK409.out)):gb409 ≠ gb410));have n6_:=Aside0.mk ((by rw [hg];exact Nat.ne_of_gt (blk_lt (g:=gb409) (o:= .cells #[.slice A0_0 l0_0.length c0_0,.int .i64 a0_1,.string a0_2,.int .i64 a0_3] 36 (0,0)) (by (with_reducible repeat (first|apply bN|apply bd|apply bA));exact BK409.out)):gb410 ≠ gb409));clear BK409;clear HB;have BK409:=n0_;have HB:=n1_;have BK410:=n2_;have GW410:=n3_;have GE410:=n4_;have NB409_410:=n5_;have NB410_409:=n6_;clear n0_ n1_ n2_ n3_ n4_ n5_ n6_;clear hb hbox hg)|((with_reducible refine gate_dst (N:=3) rfl ?_);refine Kd.R_lit k79 _ 79 ?hg (N:=3) ?hd (xs:=([]:List (S79))) (inner:= []) (ok:=fun _=> True) (okp:=fun _=> True) ?hr ?hp (fun _ hk=> hk) trivial (Below.refl _ _) (Nat.le_refl _) (by simp) ?_;(case hd=> rfl);(case hg=> rfl);(case hr=> first|(go_simp;done)|(go_simp;rfl));(case hp=> exact (Reps.none _ _));intro v412 w5 ho6 hb hg_ hnew_;clear hg_ hnew_;(first|rw [← Ny411.out] at ho6|(simp only [Int.reduceToNat] at ho6;rw [← Ny411.out] at ho6));have n0_:=Aside0.mk (Kd.R_lower ho6 (below_size (by repeat (first|(with_reducible first|exact HB.out|apply bwA|apply bwN|apply bwD|refine bwS ?_ GE409.out|refine bwS ?_ GE410.out)|exact HB.out))));have n1_:=Aside0.mk (blk_below (g:=gb409) (o:= .cells #[.slice A0_0 l0_0.length c0_0,.int .i64 a0_1,.string a0_2,.int .i64 a0_3] 36 (0,0)) (by (with_reducible repeat (first|apply bN|apply bd|apply bA));exact BK409.out) hb);have n2_:=Aside0.mk (blk_below (g:=gb410) (o:= .cells #[.slice none 0 0,.int .i64 0,.string (⟨#[]⟩:ByteArray),.int .i64 0] 36 (0,0)) (by (with_reducible repeat (first|apply bN|apply bd|apply bA));exact BK410.out) hb);have n3_:=Aside0.mk (below_step (by repeat (first|(with_reducible first|exact HB.out|apply bwA|apply bwN|apply bwD|refine bwS ?_ GE409.out|refine bwS ?_ GE410.out)|exact HB.out)) hb);clear BK409;clear BK410;clear HB;have HO413:=n0_;have BK409:=n1_;have BK410:=n2_;have HB:=n3_;clear n0_ n1_ n2_ n3_;clear hb ho6;have hnb7:=NB409_410.out;have hnc7:=NB410_409.out;have hcz8_0:w5.cell? ⟨gb409,0,none⟩=some (.slice A0_0 l0_0.length c0_0):=(blk_cell BK409.out 0).trans rfl;have hcz8_1:w5.cell? ⟨gb409,1,none⟩=some (.int .i64 a0_1):=(blk_cell BK409.out 1).trans rfl;have hcz8_2:w5.cell? ⟨gb409,2,none⟩=some (.string a0_2):=(blk_cell BK409.out 2).trans rfl;have hcz8_3:w5.cell? ⟨gb409,3,none⟩=some (.int .i64 a0_3):=(blk_cell BK409.out 3).trans rfl;have hfz8_0:=blk_frozen BK409.out 0;have hfz8_1:=blk_frozen BK409.out 1;have hfz8_2:=blk_frozen BK409.out 2;have hfz8_3:=blk_frozen BK409.out 3)|((with_reducible refine gate_builtin (b:= .append) (xs:= #[.tmp 3,.tmp 5]) rfl ?_);at_builtin;refine Kd.R_append_rows k79 (w0:=w) w.heap.size rfl (.tmp 3) (.tmp 5) 34 79 (.agg #[(.int .i64 0),(.int .i64 0)]) 16 rfl Try.underlying34 info79 rfl (by decide) (by omega) v412 y411 l0_0 _ _ _ (fun _=> True) (fun _=> False) rfl rfl ?aO ?aR (fun _ _ h=> h) (fun _ h=> h.elim) ?aF ?aB ?aS ?aL ?_;(case aR=> repeat (first|exact (Kd.C_below HR0_0.out HB.out)|(with_reducible refine Kd.C_alloc ?_ _)|(with_reducible refine Kd.C_drewN ?_ _)|(with_reducible refine Kd.C_drew ?_)));(case aB=> exact (by repeat (first|(with_reducible first|exact HB.out|apply bwA|apply bwN|apply bwD|refine bwS ?_ GE409.out|refine bwS ?_ GE410.out)|exact HB.out)));(case aF=> exact (fun _ _=> trivial));(case aO=> exact (by (with_reducible repeat (first|apply Kd.R_alloc|apply Kd.R_drewN|apply Kd.R_drew));exact HO413.out));(case aS=> exact (below_size (by repeat (first|(with_reducible first|exact HB.out|apply bwA|apply bwN|apply bwD|refine bwS ?_ GE409.out|refine bwS ?_ GE410.out)|exact HB.out))));(case aL=> have:=LMc2.out;omega);intro v415 w9 ho hb hg hat;rw [← Ny414.out] at ho;have n0_:=Aside0.mk (blk_grown (g:=gb409) (o:= .cells #[.slice A0_0 l0_0.length c0_0,.int .i64 a0_1,.string a0_2,.int .i64 a0_3] 36 (0,0)) (by (with_reducible repeat (first|apply bN|apply bd|apply bA));exact BK409.out) hg (Kd.R_ne HO413.out BK409.out (by decide)));have n1_:=Aside0.mk (blk_grown (g:=gb410) (o:= .cells #[.slice none 0 0,.int .i64 0,.string (⟨#[]⟩:ByteArray),.int .i64 0] 36 (0,0)) (by (with_reducible repeat (first|apply bN|apply bd|apply bA));exact BK410.out) hg (Kd.R_ne HO413.out BK410.out (by decide)));have n2_:=Aside0.mk (hb);have n3_:=Aside0.mk (ho);clear BK409;clear BK410;clear HB;clear HO413;have BK409:=n0_;have BK410:=n1_;have HB:=n2_;have HO416:=n3_;clear n0_ n1_ n2_ n3_;clear ho hb hg hat;obtain ⟨Ao10,co10,eo10⟩:=Kd.R_slice HO416.out;subst eo10;have hcz11_0:w9.cell? ⟨gb409,0,none⟩=some (.slice A0_0 l0_0.length c0_0):=(blk_cell BK409.out 0).trans rfl;have hcz11_1:w9.cell? ⟨gb409,1,none⟩=some (.int .i64 a0_1):=(blk_cell BK409.out 1).trans rfl;have hcz11_2:w9.cell? ⟨gb409,2,none⟩=some (.string a0_2):=(blk_cell BK409.out 2).trans rfl;have hcz11_3:w9.cell? ⟨gb409,3,none⟩=some (.int .i64 a0_3):=(blk_cell BK409.out 3).trans rfl;have hfz11_0:=blk_frozen BK409.out 0;have hfz11_1:=blk_frozen BK409.out 1;have hfz11_2:=blk_frozen BK409.out 2;have hfz11_3:=blk_frozen BK409.out 3;have hcz12_0:w9.cell? ⟨gb410,0,none⟩=some (.slice none 0 0):=(blk_cell BK410.out 0).trans rfl;have hcz12_1:w9.cell? ⟨gb410,1,none⟩=some (.int .i64 0):=(blk_cell BK410.out 1).trans rfl;have hcz12_2:w9.cell? ⟨gb410,2,none⟩=some (.string (⟨#[]⟩:ByteArray)):=(blk_cell BK410.out 2).trans rfl;have hcz12_3:w9.cell? ⟨gb410,3,none⟩=some (.int .i64 0):=(blk_cell BK410.out 3).trans rfl;have hfz12_0:=blk_frozen BK410.out 0;have hfz12_1:=blk_frozen BK410.out 1;have hfz12_2:=blk_frozen BK410.out 2;have hfz12_3:=blk_frozen BK410.out 3))
    refine bodyPost_ret (results_cell_row rfl _ _ gb410 36 #[.slice Ao10 y414.length co10,.int .i64 a0_1,.string a0_2,.int .i64 a0_3] (0,0) _ rfl (by (with_reducible repeat (first|apply bN|apply bd|apply bA));refine blk_put (cs:= #[.slice Ao10 y414.length co10,.int .i64 a0_1,.string a0_2,.int .i64 0]) ?_ 3 _ rfl;(with_reducible repeat (first|apply bN|apply bd|apply bA));refine blk_put (cs:= #[.slice Ao10 y414.length co10,.int .i64 a0_1,.string (⟨#[]⟩:ByteArray),.int .i64 0]) ?_ 2 _ rfl;(with_reducible repeat (first|apply bN|apply bd|apply bA));refine blk_put (cs:= #[.slice Ao10 y414.length co10,.int .i64 0,.string (⟨#[]⟩:ByteArray),.int .i64 0]) ?_ 1 _ rfl;(with_reducible repeat (first|apply bN|apply bd|apply bA));refine blk_put (cs:= #[.slice none 0 0,.int .i64 0,.string (⟨#[]⟩:ByteArray),.int .i64 0]) ?_ 0 _ rfl;(with_reducible repeat (first|apply bN|apply bd|apply bA));refine blk_far ?_ NB410_409.out _;(with_reducible repeat (first|apply bN|apply bd|apply bA));exact BK410.out) Try.underlying36 rfl (by kernel_rfl)) rfl ?_
    exact ⟨_,by first|rfl|(simp [errW_none,errW_some] <;> rfl)|(simp [*,errW_none,errW_some] <;> rfl),by (with_reducible repeat (first|apply Kd.R_alloc|apply Kd.R_drewN|apply Kd.R_drew));exact Kd.R_mono (Kd.R_far (p:=⟨gb410,3,none⟩) (Kd.R_far (p:=⟨gb410,2,none⟩) (Kd.R_far (p:=⟨gb410,1,none⟩) (Kd.R_far (p:=⟨gb410,0,none⟩) (Kd.R_far (p:=⟨gb409,0,none⟩) (Kd.R_types (Kd.R_types HO416.out BK409.out (by decide)) BK410.out (by decide)) (fun _ hk=> hk.1.2) (.slice Ao10 y414.length co10)) (fun _ hk=> hk.2) (.slice Ao10 y414.length co10)) (fun _ hk=> hk.2) (.int .i64 a0_1)) (fun _ hk=> hk.2) (.string a0_2)) (fun _ hk=> hk.2) (.int .i64 a0_3)) (fun _ hk=> trivial),by repeat (first|(with_reducible first|exact HB.out|apply bwA|apply bwN|apply bwD|refine bwS ?_ GE409.out|refine bwS ?_ GE410.out)|exact HB.out)⟩
  · rw [if_neg c2] at H
    exact absurd H (by simp)
def spec_l02Number.l0:Nat → Int → List Int → Int → Option (List Int)
  |0,_,_,_=> none
  |k + 1,x0,x5,x6=> if x6 ≥ 0 then (if 0 ≤ (IntKind.u64.wrap (wrap64 (8 * x6))) then (if x5.length < 140737488355328 then (spec_l02Number.l0 k x0 (x5 ++ [(shr .i64 x0 (IntKind.u64.wrap (wrap64 (8 * x6)))) % 256]) (wrap64 (x6 - 1))) else (none)) else (none)) else (some x5)
def spec_l02Number.f (k:Nat) (a0:Int) (a1:Int):Option (List Int):=spec_l02Number.l0 k a0 (([]:List Int)) (wrap64 (a1 - 1))
theorem spec_l02Number.mono_l:∀ k,(∀ y0 y1 y2,LeO (spec_l02Number.l0 k y0 y1 y2) (spec_l02Number.l0 (k + 1) y0 y1 y2))
  |0=> fun _ _ _ r h=> by simp [spec_l02Number.l0] at h
  |k + 1=> by
    have ih0:=spec_l02Number.mono_l k
    · intro y0 y1 y2
      unfold spec_l02Number.l0
      repeat' first
      |(with_reducible exact ih0 _ _ _)
      |(with_reducible exact LeO.refl _)
      |(with_reducible exact LeO.none _)
      |(with_reducible refine LeO.ite ?_ ?_)
      |(with_reducible refine LeO.bind ?_ (fun _=> ?_))
      |exact ih0 _ _ _
      |exact LeO.none _
      |refine LeO.ite ?_ ?_
      |refine LeO.bind ?_ (fun _=> ?_)
theorem spec_l02Number.mono:∀ a0 a1 k,LeO (spec_l02Number.f k a0 a1) (spec_l02Number.f (k + 1) a0 a1):=by
  intro a0 a1 k
  have ih0:=spec_l02Number.mono_l k
  unfold spec_l02Number.f
  repeat' first
      |(with_reducible exact ih0 _ _ _)
      |(with_reducible exact LeO.refl _)
      |(with_reducible exact LeO.none _)
      |(with_reducible refine LeO.ite ?_ ?_)
      |(with_reducible refine LeO.bind ?_ (fun _=> ?_))
      |exact ih0 _ _ _
      |exact LeO.none _
      |refine LeO.ite ?_ ?_
      |refine LeO.bind ?_ (fun _=> ?_)
set_option maxHeartbeats 8000000 in
set_option maxRecDepth 100000 in
theorem spec_l02Number.calls (k:Nat) (a0:Int) (a1:Int) (r:List Int) (w:World) (h:spec_l02Number.f k a0 a1=some r):
    Calls Try.prog 148 #[.int .i64 a0,.int .i64 a1] w fun e w'=> ∃ v0_:Value,e= .returned (v0_) ∧ Kd.R (Kd.int .u8) 5 w' w.heap.size (fun _=> True) v0_ r ∧ Below w.heap.size w w':=by
  have HB:=Aside0.mk (Below.refl w.heap.size w)
  have H:(spec_l02Number.l0 k a0 (([]:List Int)) (wrap64 (a1 - 1)))=some r:=h
  clear h
  obtain ⟨y305,hy305⟩:∃ y_:List Int,y_=(([]:List Int)):=⟨_,rfl⟩
  replace H:(spec_l02Number.l0 k a0 y305 (wrap64 (a1 - 1)))=some r:=by first|(rw [hy305];with_reducible exact H)|(have H2_:=(Option.bind_some _ _).symm.trans H;rw [hy305];with_reducible exact H2_)|(have H2_:=(Option.bind_some _ _).symm.trans H;with_reducible exact H2_)|with_reducible exact H|(rw [hy305];exact H)|exact H
  have Ny305:=Aside0.mk hy305
  clear hy305
  have H':=Aside0.mk H
  clear H
  go_enter Try.func148,Try.ntmps148
  go_wp2_with (first|((with_reducible refine gate_dst (N:=7) rfl ?_);refine Kd.R_lit (Kd.int .u8) _ 5 ?hg (N:=7) ?hd (xs:=([]:List Int)) (inner:= []) (ok:=fun _=> True) (okp:=fun _=> True) ?hr ?hp (fun _ hk=> hk) trivial (Below.refl _ _) (Nat.le_refl _) (by simp) ?_;(case hd=> rfl);(case hg=> rfl);(case hr=> first|(go_simp;done)|(go_simp;rfl));(case hp=> exact (Reps.none _ _));intro v306 w3 ho4 hb hg_ hnew_;clear hg_ hnew_;(first|rw [← Ny305.out] at ho4|(simp only [Int.reduceToNat] at ho4;rw [← Ny305.out] at ho4));have n0_:=Aside0.mk (Kd.R_lower ho4 (below_size (by repeat (first|(with_reducible first|exact HB.out|apply bwA|apply bwN|apply bwD)|exact HB.out))));have n1_:=Aside0.mk (below_step (by repeat (first|(with_reducible first|exact HB.out|apply bwA|apply bwN|apply bwD)|exact HB.out)) hb);clear HB;have HO307:=n0_;have HB:=n1_;clear n0_ n1_;clear hb ho4))
  go_loopg [5,6] k (fun kq v5 v6 w'=> ∃ (x5_1:List Int) (x6_1:Int),v6= .int .i64 x6_1 ∧ Aside0 (spec_l02Number.l0 kq a0 x5_1 x6_1=some r) ∧ Aside0 (kq ≤ k) ∧ Aside0 (Kd.R (Kd.int .u8) 5 w' w.heap.size (fun _=> True) v5 x5_1) ∧ Aside0 (Below w.heap.size w w'))
  case atStart=> exact ⟨(y305),(wrap64 (a1 - 1)),(by first|rfl|(simp;done)|(simp [*];done)),H',⟨Nat.le_refl _⟩,⟨by (with_reducible repeat (first|apply Kd.R_alloc|apply Kd.R_drewN|apply Kd.R_drew));exact HO307.out⟩,⟨by repeat (first|(with_reducible first|exact HB.out|apply bwA|apply bwN|apply bwD)|exact HB.out)⟩⟩
  case round=>
    clear H'
    try clear c1
    try clear p2
    obtain ⟨x5_1,x6_1,rfl,HA,HK1,HO_5,HB⟩:=hrel
    cases gk with
    |zero=> exact absurd HA.out (by simp [spec_l02Number.l0])
    |succ k1=>
      have H:=HA.out
      clear HA
      simp only [spec_l02Number.l0] at H
      by_cases c5:x6_1 ≥ 0
      · rw [if_pos c5] at H
        have c5b0:decide (0 ≤ x6_1)=true:=decide_eq_true c5
        clear c5
        obtain ⟨ji6,hji6⟩:∃ j_:Int,(IntKind.u64.wrap (wrap64 (8 * x6_1)))=j_:=⟨_,rfl⟩
        replace H:(if 0 ≤ (ji6) then (if x5_1.length < 140737488355328 then (spec_l02Number.l0 k1 a0 (x5_1 ++ [(shr .i64 a0 (ji6)) % 256]) (wrap64 (x6_1 - 1))) else (none)) else (none))=some r:=by first|(rw [hji6] at H;exact H)|(simp only [hji6] at H ⊢;exact H)
        by_cases c7:0 ≤ (ji6)
        · rw [if_pos c7] at H
          have c7b0:=eq_true c7
          have c7b1:decide (0 ≤ (ji6))=true:=decide_eq_true c7
          clear c7
          obtain ⟨ji8,hji8⟩:∃ j_:Int,(shr .i64 a0 (ji6))=j_:=⟨_,rfl⟩
          replace H:(if x5_1.length < 140737488355328 then (spec_l02Number.l0 k1 a0 (x5_1 ++ [(ji8) % 256]) (wrap64 (x6_1 - 1))) else (none))=some r:=by first|(rw [hji8] at H;exact H)|(simp only [hji8] at H ⊢;exact H)
          have hji8_:(a0 / 2 ^ min (ji6).toNat 64)=ji8:=hji8
          have hji8z:(ji6) ≤ 64 → (a0 / 2 ^ (ji6).toNat)=ji8:=shr_small hji8
          by_cases c9:x5_1.length < 140737488355328
          · rw [if_pos c9] at H
            have LMc9:=Aside0.mk c9
            clear c9
            obtain ⟨y308,hy308⟩:∃ y_:List Int,y_=(x5_1 ++ [(ji8) % 256]):=⟨_,rfl⟩
            replace H:(spec_l02Number.l0 k1 a0 y308 (wrap64 (x6_1 - 1)))=some r:=by first|(rw [hy308];with_reducible exact H)|(have H2_:=(Option.bind_some _ _).symm.trans H;rw [hy308];with_reducible exact H2_)|(have H2_:=(Option.bind_some _ _).symm.trans H;with_reducible exact H2_)|with_reducible exact H|(rw [hy308];exact H)|exact H
            have Ny308:=Aside0.mk hy308
            clear hy308
            have H':=Aside0.mk H
            clear H
            go_wp2_with (first|((with_reducible refine gate_builtin (b:= .append) (xs:= #[.tmp 14,.tmp 21]) rfl ?_);at_builtin;refine Kd.R_append (Kd.int .u8) (w0:=w) w.heap.size rfl (.tmp 14) (.tmp 21) 25 5 (.int .u8 0) 1 rfl Try.underlying25 info5 rfl (by decide) (by omega) u5 x5_1 ((ji8) % 256) [.int .u8 ((ji8) % 256)] (fun _=> True) (fun _=> False) rfl rfl ?aP (fun _ hk=> hk.elim) ?aF ?aO ?aB ?aS ?aL ?_;(case aP=> exact rfl);(case aB=> exact (by repeat (first|(with_reducible first|exact HB.out|apply bwA|apply bwN|apply bwD)|exact HB.out)));(case aF=> exact (fun _ _=> trivial));(case aO=> exact (by (with_reducible repeat (first|apply Kd.R_alloc|apply Kd.R_drewN|apply Kd.R_drew));exact HO_5.out));(case aS=> exact (below_size (by repeat (first|(with_reducible first|exact HB.out|apply bwA|apply bwN|apply bwD)|exact HB.out))));(case aL=> have:=LMc9.out;omega);intro v309 w10 ho hb hg hat;rw [← Ny308.out] at ho;have n0_:=Aside0.mk (hb);have n1_:=Aside0.mk (ho);clear HB;clear HO_5;have HB:=n0_;have HO310:=n1_;clear n0_ n1_;clear ho hb hg hat))
            go_roundg k1
            case measure=> have:=HK1.out;omega
            case rel=> exact ⟨(y308),(wrap64 (x6_1 - 1)),(by first|rfl|(simp;done)|(simp [*];done)),H',⟨by have:=HK1.out;omega⟩,⟨by (with_reducible repeat (first|apply Kd.R_alloc|apply Kd.R_drewN|apply Kd.R_drew));exact HO310.out⟩,⟨by repeat (first|(with_reducible first|exact HB.out|apply bwA|apply bwN|apply bwD)|exact HB.out)⟩⟩
          · rw [if_neg c9] at H
            exact absurd H (by simp)
        · rw [if_neg c7] at H
          exact absurd H (by simp)
      · rw [if_neg c5] at H
        have c5b0:decide (0 ≤ x6_1)=false:=decide_eq_false c5
        clear c5
        obtain rfl:=Option.some.inj H
        go_wp2
        go_ret
        exact ⟨_,by first|rfl|(simp [errW_none,errW_some] <;> rfl)|(simp [*,errW_none,errW_some] <;> rfl),by (with_reducible repeat (first|apply Kd.R_alloc|apply Kd.R_drewN|apply Kd.R_drew));exact HO_5.out,by repeat (first|(with_reducible first|exact HB.out|apply bwA|apply bwN|apply bwD)|exact HB.out)⟩
def spec_l05Field.l0:Nat → ByteArray → Int → Int → Option (Int)
  |0,_,_,_=> none
  |k + 1,x0,x3,x4=> if x4 < 8 then (if 0 ≤ x4 then (if x4 < (x0.size:Int) then (spec_l05Field.l0 k x0 (Int.tmod (wrap64 ((wrap64 (x3 * 256)) + (wrap64 (bt x0 x4)))) 2130706433) (wrap64 (x4 + 1))) else (none)) else (none)) else (some x3)
def spec_l05Field.f (k:Nat) (a0:ByteArray):Option (Int):=spec_l05Field.l0 k a0 0 0
theorem spec_l05Field.mono_l:∀ k,(∀ y0 y1 y2,LeO (spec_l05Field.l0 k y0 y1 y2) (spec_l05Field.l0 (k + 1) y0 y1 y2))
  |0=> fun _ _ _ r h=> by simp [spec_l05Field.l0] at h
  |k + 1=> by
    have ih0:=spec_l05Field.mono_l k
    · intro y0 y1 y2
      unfold spec_l05Field.l0
      repeat' first
      |(with_reducible exact ih0 _ _ _)
      |(with_reducible exact LeO.refl _)
      |(with_reducible exact LeO.none _)
      |(with_reducible refine LeO.ite ?_ ?_)
      |(with_reducible refine LeO.bind ?_ (fun _=> ?_))
      |exact ih0 _ _ _
      |exact LeO.none _
      |refine LeO.ite ?_ ?_
      |refine LeO.bind ?_ (fun _=> ?_)
theorem spec_l05Field.mono:∀ a0 k,LeO (spec_l05Field.f k a0) (spec_l05Field.f (k + 1) a0):=by
  intro a0 k
  have ih0:=spec_l05Field.mono_l k
  unfold spec_l05Field.f
  repeat' first
      |(with_reducible exact ih0 _ _ _)
      |(with_reducible exact LeO.refl _)
      |(with_reducible exact LeO.none _)
      |(with_reducible refine LeO.ite ?_ ?_)
      |(with_reducible refine LeO.bind ?_ (fun _=> ?_))
      |exact ih0 _ _ _
      |exact LeO.none _
      |refine LeO.ite ?_ ?_
      |refine LeO.bind ?_ (fun _=> ?_)
set_option maxHeartbeats 8000000 in
set_option maxRecDepth 100000 in
theorem spec_l05Field.calls (k:Nat) (a0:ByteArray) (r:Int) (w:World) (h:spec_l05Field.f k a0=some r):
    Calls Try.prog 157 #[.string a0] w fun e w'=> e= .returned (.int .i64 r) ∧ Drawn0 w w':=by
  have H:(spec_l05Field.l0 k a0 0 0)=some r:=h
  clear h
  have H':=Aside0.mk H
  clear H
  go_enter Try.func157,Try.ntmps157
  go_wp2
  go_loopg [3,4] k (fun kq v3 v4 w'=> ∃ (x3_1:Int) (x4_1:Int),v3= .int .i64 x3_1 ∧ v4= .int .i64 x4_1 ∧ Aside0 (spec_l05Field.l0 kq a0 x3_1 x4_1=some r) ∧ Aside0 (kq ≤ k) ∧ Drawn0 w w')
  case atStart=> exact ⟨(0),(0),(by first|rfl|(simp;done)|(simp [*];done)),(by first|rfl|(simp;done)|(simp [*];done)),H',⟨Nat.le_refl _⟩,by repeat (first|exact Drawn0.refl _|apply Drawn0.step)⟩
  case round=>
    clear H'
    try clear c1
    obtain ⟨x3_1,x4_1,rfl,rfl,HA,HK1,⟨m1,rfl⟩⟩:=hrel
    cases gk with
    |zero=> exact absurd HA.out (by simp [spec_l05Field.l0])
    |succ k1=>
      have H:=HA.out
      clear HA
      simp only [spec_l05Field.l0] at H
      by_cases c2:x4_1 < 8
      · rw [if_pos c2] at H
        have c2b0:decide (x4_1 < 8)=true:=decide_eq_true c2
        clear c2
        by_cases c3:0 ≤ x4_1
        · rw [if_pos c3] at H
          have c3b0:decide (0 ≤ x4_1)=true:=decide_eq_true c3
          clear c3
          by_cases c4:x4_1 < (a0.size:Int)
          · rw [if_pos c4] at H
            have c4b0:decide (x4_1 < (a0.size:Int))=true:=decide_eq_true c4
            clear c4
            have H':=Aside0.mk H
            clear H
            have p5:0 ≤ (x4_1:Int):=of_decide_eq_true (by first|(with_reducible assumption)|assumption)
            have q5:x4_1 < (a0.size:Int):=of_decide_eq_true (by first|(with_reducible assumption)|assumption)
            have hx5:=bt_at a0 x4_1
            replace p5:=eq_true p5
            replace q5:=eq_true q5
            go_wp2
            go_roundg k1
            case measure=> have:=HK1.out;omega
            case rel=> exact ⟨(Int.tmod (wrap64 ((wrap64 (x3_1 * 256)) + (wrap64 (bt a0 x4_1)))) 2130706433),(wrap64 (x4_1 + 1)),(by first|rfl|(simp;done)|(simp [*];done)),(by first|rfl|(simp;done)|(simp [*];done)),H',⟨by have:=HK1.out;omega⟩,by repeat (first|exact Drawn0.refl _|apply Drawn0.step)⟩
          · rw [if_neg c4] at H
            exact absurd H (by simp)
        · rw [if_neg c3] at H
          exact absurd H (by simp)
      · rw [if_neg c2] at H
        have c2b0:decide (x4_1 < 8)=false:=decide_eq_false c2
        clear c2
        obtain rfl:=Option.some.inj H
        go_wp2
        go_ret
        exact ⟨by first|rfl|(simp;done)|(simp [*];done),by repeat (first|exact Drawn0.refl _|apply Drawn0.step)⟩
end Go.Proofs.Ytlogocmojnhpbaa.Print
