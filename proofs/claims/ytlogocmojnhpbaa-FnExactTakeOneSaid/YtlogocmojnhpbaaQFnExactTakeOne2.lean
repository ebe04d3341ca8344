-- Packed by a program of this session (slim.py) out of printed texts; not trusted, Lean checks it.
import Derived.Test.YtlogocmojnhpbaaP0
import Derived.Test.YtlogocmojnhpbaaQFnExactTakeOne1
namespace Go.Proofs.Ytlogocmojnhpbaa.Print
open Go.RowKit Go.Proofs.YtlogocmojnhpbaaW.PrintWords Go.Proofs.YtlogocmojnhpbaaW.PrintLast Go.Proofs.YtlogocmojnhpbaaW.PrintMore
attribute [local go_sem] max2_int min2_int max_two min_two max_three min_three max_four min_four
set_option linter.unusedVariables false
set_option linter.unusedSimpArgs false
def impl_TakeOne.f (l0_0:List (S79)) (a0_1:Int) (a0_2:ByteArray) (a0_3:Int):Option ((List (S79)) × Int × ByteArray × Int × Int × Int × Int):=(impl_TakeSome.f l0_0 a0_1 a0_2 a0_3 1).bind fun bt675=> (if bt675.2.2.2.2.2=0 then (if 0 < (bt675.2.2.2.2.1.length:Int) then (some (bt675.1,bt675.2.1,bt675.2.2.1,bt675.2.2.2.1,(rd_T79 bt675.2.2.2.2.1 0).f0,(rd_T79 bt675.2.2.2.2.1 0).f1,0)) else (none)) else (some (bt675.1,bt675.2.1,bt675.2.2.1,bt675.2.2.2.1,0,0,bt675.2.2.2.2.2)))
set_option maxHeartbeats 8000000 in
set_option maxRecDepth 100000 in
theorem impl_TakeOne.calls (A0_0:Option Addr) (c0_0:Nat) (l0_0:List (S79)) (a0_1:Int) (a0_2:ByteArray) (a0_3:Int) (r1:List (S79)) (r2:Int) (r3:ByteArray) (r4:Int) (r5:Int) (r6:Int) (r7:Int) (w:World) (hr0_0:Kd.C k79 w A0_0 l0_0.length l0_0) (hc0_0:l0_0.length ≤ c0_0) (h:impl_TakeOne.f l0_0 a0_1 a0_2 a0_3=some (r1,r2,r3,r4,r5,r6,r7)):
    Calls Try.prog 70 #[.agg #[.slice A0_0 l0_0.length c0_0,.int .i64 a0_1,.string a0_2,.int .i64 a0_3]] w fun e w'=> ∃ v0_:Value,e= .returned (.tuple #[.agg #[v0_,.int .i64 r2,.string r3,.int .i64 r4],.agg #[.int .i64 r5,.int .i64 r6],.int .i64 r7]) ∧ Kd.R k79 79 w' w.heap.size (fun _=> True) v0_ r1 ∧ Below w.heap.size w w':=by
  have hu36:=Try.underlying36
  have hu79:=Try.underlying79
  have HR0_0:=Aside0.mk hr0_0
  have HC0_0:=Aside0.mk hc0_0
  clear hr0_0 hc0_0
  have HB:=Aside0.mk (Below.refl w.heap.size w)
  have H:((impl_TakeSome.f l0_0 a0_1 a0_2 a0_3 1).bind fun bt675=> (if bt675.2.2.2.2.2=0 then (if 0 < (bt675.2.2.2.2.1.length:Int) then (some (bt675.1,bt675.2.1,bt675.2.2.1,bt675.2.2.2.1,(rd_T79 bt675.2.2.2.2.1 0).f0,(rd_T79 bt675.2.2.2.2.1 0).f1,0)) else (none)) else (some (bt675.1,bt675.2.1,bt675.2.2.1,bt675.2.2.2.1,0,0,bt675.2.2.2.2.2))))=some (r1,r2,r3,r4,r5,r6,r7):=h
  clear h
  replace H:=Option.bind_eq_some_iff.mp H
  obtain ⟨⟨t675,t678,t679,t680,t681,t684⟩,A20,H⟩:=H
  replace H:(if t684=0 then (if 0 < (t681.length:Int) then (some (t675,t678,t679,t680,(rd_T79 t681 0).f0,(rd_T79 t681 0).f1,0)) else (none)) else (some (t675,t678,t679,t680,0,0,t684)))=some (r1,r2,r3,r4,r5,r6,r7):=H
  have A2:=Aside0.mk A20
  clear A20
  by_cases c3:t684=0
  · rw [if_pos c3] at H
    have c3b0:(t684==0)=true:=beq_iff_eq.mpr c3
    have c3b1:(t684 !=0)=false:=bne_eq_false_iff_eq.mpr c3
    clear c3
    by_cases c4:0 < (t681.length:Int)
    · rw [if_pos c4] at H
      have c4b0:decide (0 < (t681.length:Int))=true:=decide_eq_true c4
      have c4b1:decide (0 < t681.length)=true:=decide_eq_true (by omega)
      clear c4
      simp only [Option.some.injEq,Prod.mk.injEq] at H
      obtain ⟨rfl,rfl,rfl,rfl,rfl,rfl,rfl⟩:=H
      go_enter Try.func70,Try.ntmps70
      try go_wp2_with (first|((with_reducible refine gate_dst (N:=1) rfl ?_);refine box_event ?hg (N:=1) ?hd (cs:= #[.slice A0_0 l0_0.length c0_0,.int .i64 a0_1,.string a0_2,.int .i64 a0_3]) (t:=36) ?hr ?_;(case hd=> rfl);(case hg=> rfl);(case hr=> first|(go_simp;done)|(go_simp;rfl));intro gb672 hg w5 hbox hb;have n0_:=Aside0.mk (below_step (by repeat (first|(with_reducible first|exact HB.out|apply below_alloc|apply pw_below_drewN|apply below_drew1)|exact HB.out)) hb);have n1_:=Aside0.mk (hbox);have n2_:=Aside0.mk ((by rw [hg];exact (below_size (by repeat (first|(with_reducible first|exact HB.out|apply below_alloc|apply pw_below_drewN|apply below_drew1)|exact HB.out))):w.heap.size ≤ gb672));have n3_:=Aside0.mk ((by rw [hg];exact (below_size (by repeat (first|(with_reducible first|exact HB.out|apply below_alloc|apply pw_below_drewN|apply below_drew1)|exact HB.out))):w.heap.size ≤ gb672));clear HB;have HB:=n0_;have BK672:=n1_;have GW672:=n2_;have GE672:=n3_;clear n0_ n1_ n2_ n3_;clear hb hbox hg)|((with_reducible refine gate_dst (N:=2) rfl ?_);refine box_event ?hg (N:=2) ?hd (cs:= #[.slice none 0 0,.int .i64 0,.string (⟨#[]⟩:ByteArray),.int .i64 0]) (t:=36) ?hr ?_;(case hd=> rfl);(case hg=> rfl);(case hr=> first|(go_simp;done)|(go_simp;rfl));intro gb673 hg w6 hbox hb;have n0_:=Aside0.mk (blk_below (g:=gb672) (o:= .cells #[.slice A0_0 l0_0.length c0_0,.int .i64 a0_1,.string a0_2,.int .i64 a0_3] 36 (0,0)) (by (with_reducible repeat (first|apply bN|apply bd|apply bA));exact BK672.out) hb);have n1_:=Aside0.mk (below_step (by repeat (first|(with_reducible first|exact HB.out|apply below_alloc|apply pw_below_drewN|apply below_drew1|refine below_set ?_ GE672.out)|exact HB.out)) hb);have n2_:=Aside0.mk (hbox);have n3_:=Aside0.mk ((by rw [hg];exact (below_size (by repeat (first|(with_reducible first|exact HB.out|apply below_alloc|apply pw_below_drewN|apply below_drew1|refine below_set ?_ GE672.out)|exact HB.out))):w.heap.size ≤ gb673));have n4_:=Aside0.mk ((by rw [hg];exact (below_size (by repeat (first|(with_reducible first|exact HB.out|apply below_alloc|apply pw_below_drewN|apply below_drew1|refine below_set ?_ GE672.out)|exact HB.out))):w.heap.size ≤ gb673));have n5_:=Aside0.mk ((by rw [hg];exact Nat.ne_of_lt (blk_lt (g:=gb672) (o:= .cells #[.slice A0_0 l0_0.length c0_0,.int .i64 a0_1,.string a0_2,.int .i64 a0_3] 36 (0,0)) (by (with_reducible repeat (first|apply bN|apply bd|apply bA));exact BK672.out)):gb672 ≠ gb673));have n6_:=Aside0.mk ((by rw [hg];exact Nat.ne_of_gt (blk_lt (g:=gb672) (o:= .cells #[.slice A0_0 l0_0.length c0_0,.int .i64 a0_1,.string a0_2,.int .i64 a0_3] 36 (0,0)) (by (with_reducible repeat (first|apply bN|apply bd|apply bA));exact BK672.out)):gb673 ≠ gb672));clear BK672;clear HB;have BK672:=n0_;have HB:=n1_;have BK673:=n2_;have GW673:=n3_;have GE673:=n4_;have NB672_673:=n5_;have NB673_672:=n6_;clear n0_ n1_ n2_ n3_ n4_ n5_ n6_;clear hb hbox hg)|((with_reducible refine gate_dst (N:=3) rfl ?_);refine box_event ?hg (N:=3) ?hd (cs:= #[.int .i64 0,.int .i64 0]) (t:=79) ?hr ?_;(case hd=> rfl);(case hg=> rfl);(case hr=> first|(go_simp;done)|(go_simp;rfl));intro gb674 hg w7 hbox hb;have n0_:=Aside0.mk (blk_below (g:=gb672) (o:= .cells #[.slice A0_0 l0_0.length c0_0,.int .i64 a0_1,.string a0_2,.int .i64 a0_3] 36 (0,0)) (by (with_reducible repeat (first|apply bN|apply bd|apply bA));exact BK672.out) hb);have n1_:=Aside0.mk (blk_below (g:=gb673) (o:= .cells #[.slice none 0 0,.int .i64 0,.string (⟨#[]⟩:ByteArray),.int .i64 0] 36 (0,0)) (by (with_reducible repeat (first|apply bN|apply bd|apply bA));exact BK673.out) hb);have n2_:=Aside0.mk (below_step (by repeat (first|(with_reducible first|exact HB.out|apply below_alloc|apply pw_below_drewN|apply below_drew1|refine below_set ?_ GE672.out|refine below_set ?_ GE673.out)|exact HB.out)) hb);have n3_:=Aside0.mk (hbox);have n4_:=Aside0.mk ((by rw [hg];exact (below_size (by repeat (first|(with_reducible first|exact HB.out|apply below_alloc|apply pw_below_drewN|apply below_drew1|refine below_set ?_ GE672.out|refine below_set ?_ GE673.out)|exact HB.out))):w.heap.size ≤ gb674));have n5_:=Aside0.mk ((by rw [hg];exact (below_size (by repeat (first|(with_reducible first|exact HB.out|apply below_alloc|apply pw_below_drewN|apply below_drew1|refine below_set ?_ GE672.out|refine below_set ?_ GE673.out)|exact HB.out))):w.heap.size ≤ gb674));have n6_:=Aside0.mk ((by rw [hg];exact Nat.ne_of_lt (blk_lt (g:=gb672) (o:= .cells #[.slice A0_0 l0_0.length c0_0,.int .i64 a0_1,.string a0_2,.int .i64 a0_3] 36 (0,0)) (by (with_reducible repeat (first|apply bN|apply bd|apply bA));exact BK672.out)):gb672 ≠ gb674));have n7_:=Aside0.mk ((by rw [hg];exact Nat.ne_of_gt (blk_lt (g:=gb672) (o:= .cells #[.slice A0_0 l0_0.length c0_0,.int .i64 a0_1,.string a0_2,.int .i64 a0_3] 36 (0,0)) (by (with_reducible repeat (first|apply bN|apply bd|apply bA));exact BK672.out)):gb674 ≠ gb672));have n8_:=Aside0.mk ((by rw [hg];exact Nat.ne_of_lt (blk_lt (g:=gb673) (o:= .cells #[.slice none 0 0,.int .i64 0,.string (⟨#[]⟩:ByteArray),.int .i64 0] 36 (0,0)) (by (with_reducible repeat (first|apply bN|apply bd|apply bA));exact BK673.out)):gb673 ≠ gb674));have n9_:=Aside0.mk ((by rw [hg];exact Nat.ne_of_gt (blk_lt (g:=gb673) (o:= .cells #[.slice none 0 0,.int .i64 0,.string (⟨#[]⟩:ByteArray),.int .i64 0] 36 (0,0)) (by (with_reducible repeat (first|apply bN|apply bd|apply bA));exact BK673.out)):gb674 ≠ gb673));clear BK672;clear BK673;clear HB;have BK672:=n0_;have BK673:=n1_;have HB:=n2_;have BK674:=n3_;have GW674:=n4_;have GE674:=n5_;have NB672_674:=n6_;have NB674_672:=n7_;have NB673_674:=n8_;have NB674_673:=n9_;clear n0_ n1_ n2_ n3_ n4_ n5_ n6_ n7_ n8_ n9_;clear hb hbox hg;have hnb8:=NB672_673.out;have hnc8:=NB673_672.out;have hnb9:=NB672_674.out;have hnc9:=NB674_672.out;have hcz10_0:w7.cell? ⟨gb672,0,none⟩=some (.slice A0_0 l0_0.length c0_0):=(blk_cell BK672.out 0).trans rfl;have hcz10_1:w7.cell? ⟨gb672,1,none⟩=some (.int .i64 a0_1):=(blk_cell BK672.out 1).trans rfl;have hcz10_2:w7.cell? ⟨gb672,2,none⟩=some (.string a0_2):=(blk_cell BK672.out 2).trans rfl;have hcz10_3:w7.cell? ⟨gb672,3,none⟩=some (.int .i64 a0_3):=(blk_cell BK672.out 3).trans rfl;have hfz10_0:=blk_frozen BK672.out 0;have hfz10_1:=blk_frozen BK672.out 1;have hfz10_2:=blk_frozen BK672.out 2;have hfz10_3:=blk_frozen BK672.out 3)|((with_reducible refine gate_callee (f:=73) rfl ?_);refine goesL_ (some 10) rfl rfl Try.func73 (by kernel_rfl) rfl #[.agg #[.slice A0_0 l0_0.length c0_0,.int .i64 a0_1,.string a0_2,.int .i64 a0_3],.int .i64 1] rfl (by (try simp only [List.map_toArray,List.map_cons,List.map_nil]);first|done|rfl|(simp only [List.length_drop,List.length_take];rfl)) ?_;(with_reducible refine (impl_TakeSome.calls _ _ l0_0 a0_1 a0_2 a0_3 1 t675 t678 t679 t680 t681 t684 _ ?side1 ?side2 A2.out).mono ?_);(case side1=> repeat (first|exact (Kd.C_below HR0_0.out HB.out)|(with_reducible refine Kd.C_alloc ?_ _)|(with_reducible refine Kd.C_drewN ?_ _)|(with_reducible refine Kd.C_drew ?_)));(case side2=> exact HC0_0.out);rintro e w11 ⟨v676,v682,rfl,ho0,ho1,hb⟩;refine ⟨_,rfl,?_⟩;have n0_:=Aside0.mk (Kd.R_lower (Kd.R_newB ho0 (g:=gb674) (o:= .cells #[.int .i64 0,.int .i64 0] 79 (0,0)) (by (with_reducible repeat (first|apply bN|apply bd|apply bA));exact BK674.out)) (below_size (by repeat (first|(with_reducible first|exact HB.out|apply below_alloc|apply pw_below_drewN|apply below_drew1|refine below_set ?_ GE672.out|refine below_set ?_ GE673.out|refine below_set ?_ GE674.out)|exact HB.out))));have n1_:=Aside0.mk (Kd.R_lower (Kd.R_newB ho1 (g:=gb674) (o:= .cells #[.int .i64 0,.int .i64 0] 79 (0,0)) (by (with_reducible repeat (first|apply bN|apply bd|apply bA));exact BK674.out)) (below_size (by repeat (first|(with_reducible first|exact HB.out|apply below_alloc|apply pw_below_drewN|apply below_drew1|refine below_set ?_ GE672.out|refine below_set ?_ GE673.out|refine below_set ?_ GE674.out)|exact HB.out))));have n2_:=Aside0.mk (blk_below (g:=gb672) (o:= .cells #[.slice A0_0 l0_0.length c0_0,.int .i64 a0_1,.string a0_2,.int .i64 a0_3] 36 (0,0)) (by (with_reducible repeat (first|apply bN|apply bd|apply bA));exact BK672.out) hb);have n3_:=Aside0.mk (blk_below (g:=gb673) (o:= .cells #[.slice none 0 0,.int .i64 0,.string (⟨#[]⟩:ByteArray),.int .i64 0] 36 (0,0)) (by (with_reducible repeat (first|apply bN|apply bd|apply bA));exact BK673.out) hb);have n4_:=Aside0.mk (blk_below (g:=gb674) (o:= .cells #[.int .i64 0,.int .i64 0] 79 (0,0)) (by (with_reducible repeat (first|apply bN|apply bd|apply bA));exact BK674.out) hb);have n5_:=Aside0.mk (below_step (by repeat (first|(with_reducible first|exact HB.out|apply below_alloc|apply pw_below_drewN|apply below_drew1|refine below_set ?_ GE672.out|refine below_set ?_ GE673.out|refine below_set ?_ GE674.out)|exact HB.out)) hb);clear BK672;clear BK673;clear BK674;clear HB;have HO677:=n0_;have HO683:=n1_;have BK672:=n2_;have BK673:=n3_;have BK674:=n4_;have HB:=n5_;clear n0_ n1_ n2_ n3_ n4_ n5_;(try clear hb);(try clear hb2);(try clear hk);(try clear hi);(try clear ho0);(try clear ho1))|((with_reducible refine gate_dst (N:=5) rfl ?_);refine box_event ?hg (N:=5) ?hd (cs:= #[.slice none 0 0,.int .i64 0,.string (⟨#[]⟩:ByteArray),.int .i64 0]) (t:=36) ?hr ?_;(case hd=> rfl);(case hg=> rfl);(case hr=> first|(go_simp;done)|(go_simp;rfl));intro gb685 hg w12 hbox hb;have n0_:=Aside0.mk (Kd.R_below (by (with_reducible repeat (first|apply Kd.R_alloc|apply Kd.R_drewN|apply Kd.R_drew));exact HO677.out) hb);have n1_:=Aside0.mk (Kd.R_below (by (with_reducible repeat (first|apply Kd.R_alloc|apply Kd.R_drewN|apply Kd.R_drew));exact HO683.out) hb);have n2_:=Aside0.mk (blk_below (g:=gb672) (o:= .cells #[.slice A0_0 l0_0.length c0_0,.int .i64 a0_1,.string a0_2,.int .i64 a0_3] 36 (0,0)) (by (with_reducible repeat (first|apply bN|apply bd|apply bA));exact BK672.out) hb);have n3_:=Aside0.mk (blk_below (g:=gb673) (o:= .cells #[.slice none 0 0,.int .i64 0,.string (⟨#[]⟩:ByteArray),.int .i64 0] 36 (0,0)) (by (with_reducible repeat (first|apply bN|apply bd|apply bA));exact BK673.out) hb);have n4_:=Aside0.mk (blk_below (g:=gb674) (o:= .cells #[.int .i64 0,.int .i64 0] 79 (0,0)) (by (with_reducible repeat (first|apply bN|apply bd|apply bA));exact BK674.out) hb);have n5_:=Aside0.mk (below_step (by repeat (first|(with_reducible first|exact HB.out|apply below_alloc|apply pw_below_drewN|apply below_drew1|refine below_set ?_ GE672.out|refine below_set ?_ GE673.out|refine below_set ?_ GE674.out)|exact HB.out)) hb);have n6_:=Aside0.mk (hbox);have n7_:=Aside0.mk ((by rw [hg];exact (below_size (by repeat (first|(with_reducible first|exact HB.out|apply below_alloc|apply pw_below_drewN|apply below_drew1|refine below_set ?_ GE672.out|refine below_set ?_ GE673.out|refine below_set ?_ GE674.out)|exact HB.out))):w.heap.size ≤ gb685));have n8_:=Aside0.mk ((by rw [hg];exact (below_size (by repeat (first|(with_reducible first|exact HB.out|apply below_alloc|apply pw_below_drewN|apply below_drew1|refine below_set ?_ GE672.out|refine below_set ?_ GE673.out|refine below_set ?_ GE674.out)|exact HB.out))):w.heap.size ≤ gb685));have n9_:=Aside0.mk ((by rw [hg];exact Nat.ne_of_lt (blk_lt (g:=gb672) (o:= .cells #[.slice A0_0 l0_0.length c0_0,.int .i64 a0_1,.string a0_2,.int .i64 a0_3] 36 (0,0)) (by (with_reducible repeat (first|apply bN|apply bd|apply bA));exact BK672.out)):gb672 ≠ gb685));have n10_:=Aside0.mk ((by rw [hg];exact Nat.ne_of_gt (blk_lt (g:=gb672) (o:= .cells #[.slice A0_0 l0_0.length c0_0,.int .i64 a0_1,.string a0_2,.int .i64 a0_3] 36 (0,0)) (by (with_reducible repeat (first|apply bN|apply bd|apply bA));exact BK672.out)):gb685 ≠ gb672));have n11_:=Aside0.mk ((by rw [hg];exact Nat.ne_of_lt (blk_lt (g:=gb673) (o:= .cells #[.slice none 0 0,.int .i64 0,.string (⟨#[]⟩:ByteArray),.int .i64 0] 36 (0,0)) (by (with_reducible repeat (first|apply bN|apply bd|apply bA));exact BK673.out)):gb673 ≠ gb685));have n12_:=Aside0.mk ((by rw [hg];exact Nat.ne_of_gt (blk_lt (g:=gb673) (o:= .cells #[.slice none 0 0,.int .i64 0,.string (⟨#[]⟩:ByteArray),.int .i64 0] 36 (0,0)) (by (with_reducible repeat (first|apply bN|apply bd|apply bA));exact BK673.out)):gb685 ≠ gb673));have n13_:=Aside0.mk ((by rw [hg];exact Nat.ne_of_lt (blk_lt (g:=gb674) (o:= .cells #[.int .i64 0,.int .i64 0] 79 (0,0)) (by (with_reducible repeat (first|apply bN|apply bd|apply bA));exact BK674.out)):gb674 ≠ gb685));have n14_:=Aside0.mk ((by rw [hg];exact Nat.ne_of_gt (blk_lt (g:=gb674) (o:= .cells #[.int .i64 0,.int .i64 0] 79 (0,0)) (by (with_reducible repeat (first|apply bN|apply bd|apply bA));exact BK674.out)):gb685 ≠ gb674));clear HO677;clear HO683;clear BK672;clear BK673;clear BK674;clear HB;have HO677:=n0_;have HO683:=n1_;have BK672:=n2_;have BK673:=n3_;have BK674:=n4_;have HB:=n5_;have BK685:=n6_;have GW685:=n7_;have GE685:=n8_;have NB672_685:=n9_;have NB685_672:=n10_;have NB673_685:=n11_;have NB685_673:=n12_;have NB674_685:=n13_;have NB685_674:=n14_;clear n0_ n1_ n2_ n3_ n4_ n5_ n6_ n7_ n8_ n9_ n10_ n11_ n12_ n13_ n14_;clear hb hbox hg;obtain ⟨Ao13,co13,eo13⟩:=Kd.R_slice HO677.out;subst eo13;have hnb14:=NB685_672.out;have hnc14:=NB672_685.out;have hnb15:=NB685_673.out;have hnc15:=NB673_685.out;have hnb16:=NB685_674.out;have hnc16:=NB674_685.out;have hcz17_0:w12.cell? ⟨gb685,0,none⟩=some (.slice none 0 0):=(blk_cell BK685.out 0).trans rfl;have hcz17_1:w12.cell? ⟨gb685,1,none⟩=some (.int .i64 0):=(blk_cell BK685.out 1).trans rfl;have hcz17_2:w12.cell? ⟨gb685,2,none⟩=some (.string (⟨#[]⟩:ByteArray)):=(blk_cell BK685.out 2).trans rfl;have hcz17_3:w12.cell? ⟨gb685,3,none⟩=some (.int .i64 0):=(blk_cell BK685.out 3).trans rfl;have hfz17_0:=blk_frozen BK685.out 0;have hfz17_1:=blk_frozen BK685.out 1;have hfz17_2:=blk_frozen BK685.out 2;have hfz17_3:=blk_frozen BK685.out 3))
      have n0_:Aside0 (Kd.R k79 79 ((((w12.setCell ⟨gb685,0,none⟩ (.slice Ao13 t675.length co13)).setCell ⟨gb685,1,none⟩ (.int .i64 t678)).setCell ⟨gb685,2,none⟩ (.string t679)).setCell ⟨gb685,3,none⟩ (.int .i64 t680)) w.heap.size (fun k_=> some k_ ≠ (v682:Value).ownBlock ∧ k_ ≠ gb674) (.slice Ao13 t675.length co13) t675):=⟨by (with_reducible repeat (first|apply Kd.R_alloc|apply Kd.R_drewN|apply Kd.R_drew));exact Kd.R_mono (Kd.R_far (p:=⟨gb685,3,none⟩) (Kd.R_far (p:=⟨gb685,2,none⟩) (Kd.R_far (p:=⟨gb685,1,none⟩) (Kd.R_far (p:=⟨gb685,0,none⟩) (Kd.R_types HO677.out BK685.out (by decide)) (fun _ hk=> hk.2) (.slice Ao13 t675.length co13)) (fun _ hk=> hk.2) (.int .i64 t678)) (fun _ hk=> hk.2) (.string t679)) (fun _ hk=> hk.2) (.int .i64 t680)) (fun _ hk=> ⟨hk.1.1,hk.1.2⟩)⟩
      have n1_:Aside0 (Kd.R k79 79 ((((w12.setCell ⟨gb685,0,none⟩ (.slice Ao13 t675.length co13)).setCell ⟨gb685,1,none⟩ (.int .i64 t678)).setCell ⟨gb685,2,none⟩ (.string t679)).setCell ⟨gb685,3,none⟩ (.int .i64 t680)) w.heap.size (fun k_=> some k_ ≠ (.slice Ao13 t675.length co13:Value).ownBlock ∧ k_ ≠ gb674) v682 t681):=⟨by (with_reducible repeat (first|apply Kd.R_alloc|apply Kd.R_drewN|apply Kd.R_drew));exact Kd.R_mono (Kd.R_far (p:=⟨gb685,3,none⟩) (Kd.R_far (p:=⟨gb685,2,none⟩) (Kd.R_far (p:=⟨gb685,1,none⟩) (Kd.R_far (p:=⟨gb685,0,none⟩) (Kd.R_types HO683.out BK685.out (by decide)) (fun _ hk=> hk.2) (.slice Ao13 t675.length co13)) (fun _ hk=> hk.2) (.int .i64 t678)) (fun _ hk=> hk.2) (.string t679)) (fun _ hk=> hk.2) (.int .i64 t680)) (fun _ hk=> ⟨hk.1.1,hk.1.2⟩)⟩
      have n2_:Aside0 (((((w12.setCell ⟨gb685,0,none⟩ (.slice Ao13 t675.length co13)).setCell ⟨gb685,1,none⟩ (.int .i64 t678)).setCell ⟨gb685,2,none⟩ (.string t679)).setCell ⟨gb685,3,none⟩ (.int .i64 t680)).heap[gb672]?=some (.cells #[.slice A0_0 l0_0.length c0_0,.int .i64 a0_1,.string a0_2,.int .i64 a0_3] 36 (0,0))):=⟨by (with_reducible repeat (first|apply bN|apply bd|apply bA));refine blk_far ?_ NB672_685.out _;(with_reducible repeat (first|apply bN|apply bd|apply bA));refine blk_far ?_ NB672_685.out _;(with_reducible repeat (first|apply bN|apply bd|apply bA));refine blk_far ?_ NB672_685.out _;(with_reducible repeat (first|apply bN|apply bd|apply bA));refine blk_far ?_ NB672_685.out _;(with_reducible repeat (first|apply bN|apply bd|apply bA));exact BK672.out⟩
      have n3_:Aside0 (((((w12.setCell ⟨gb685,0,none⟩ (.slice Ao13 t675.length co13)).setCell ⟨gb685,1,none⟩ (.int .i64 t678)).setCell ⟨gb685,2,none⟩ (.string t679)).setCell ⟨gb685,3,none⟩ (.int .i64 t680)).heap[gb673]?=some (.cells #[.slice none 0 0,.int .i64 0,.string (⟨#[]⟩:ByteArray),.int .i64 0] 36 (0,0))):=⟨by (with_reducible repeat (first|apply bN|apply bd|apply bA));refine blk_far ?_ NB673_685.out _;(with_reducible repeat (first|apply bN|apply bd|apply bA));refine blk_far ?_ NB673_685.out _;(with_reducible repeat (first|apply bN|apply bd|apply bA));refine blk_far ?_ NB673_685.out _;(with_reducible repeat (first|apply bN|apply bd|apply bA));refine blk_far ?_ NB673_685.out _;(with_reducible repeat (first|apply bN|apply bd|apply bA));exact BK673.out⟩
      have n4_:Aside0 (((((w12.setCell ⟨gb685,0,none⟩ (.slice Ao13 t675.length co13)).setCell ⟨gb685,1,none⟩ (.int .i64 t678)).setCell ⟨gb685,2,none⟩ (.string t679)).setCell ⟨gb685,3,none⟩ (.int .i64 t680)).heap[gb674]?=some (.cells #[.int .i64 0,.int .i64 0] 79 (0,0))):=⟨by (with_reducible repeat (first|apply bN|apply bd|apply bA));refine blk_far ?_ NB674_685.out _;(with_reducible repeat (first|apply bN|apply bd|apply bA));refine blk_far ?_ NB674_685.out _;(with_reducible repeat (first|apply bN|apply bd|apply bA));refine blk_far ?_ NB674_685.out _;(with_reducible repeat (first|apply bN|apply bd|apply bA));refine blk_far ?_ NB674_685.out _;(with_reducible repeat (first|apply bN|apply bd|apply bA));exact BK674.out⟩
      have n5_:Aside0 (((((w12.setCell ⟨gb685,0,none⟩ (.slice Ao13 t675.length co13)).setCell ⟨gb685,1,none⟩ (.int .i64 t678)).setCell ⟨gb685,2,none⟩ (.string t679)).setCell ⟨gb685,3,none⟩ (.int .i64 t680)).heap[gb685]?=some (.cells #[.slice Ao13 t675.length co13,.int .i64 t678,.string t679,.int .i64 t680] 36 (0,0))):=⟨by (with_reducible repeat (first|apply bN|apply bd|apply bA));refine blk_put (cs:= #[.slice Ao13 t675.length co13,.int .i64 t678,.string t679,.int .i64 0]) ?_ 3 _ rfl;(with_reducible repeat (first|apply bN|apply bd|apply bA));refine blk_put (cs:= #[.slice Ao13 t675.length co13,.int .i64 t678,.string (⟨#[]⟩:ByteArray),.int .i64 0]) ?_ 2 _ rfl;(with_reducible repeat (first|apply bN|apply bd|apply bA));refine blk_put (cs:= #[.slice Ao13 t675.length co13,.int .i64 0,.string (⟨#[]⟩:ByteArray),.int .i64 0]) ?_ 1 _ rfl;(with_reducible repeat (first|apply bN|apply bd|apply bA));refine blk_put (cs:= #[.slice none 0 0,.int .i64 0,.string (⟨#[]⟩:ByteArray),.int .i64 0]) ?_ 0 _ rfl;(with_reducible repeat (first|apply bN|apply bd|apply bA));exact BK685.out⟩
      have n6_:Aside0 (Below w.heap.size w ((((w12.setCell ⟨gb685,0,none⟩ (.slice Ao13 t675.length co13)).setCell ⟨gb685,1,none⟩ (.int .i64 t678)).setCell ⟨gb685,2,none⟩ (.string t679)).setCell ⟨gb685,3,none⟩ (.int .i64 t680))):=⟨by repeat (first|(with_reducible first|exact HB.out|apply below_alloc|apply pw_below_drewN|apply below_drew1|refine below_set ?_ GE672.out|refine below_set ?_ GE673.out|refine below_set ?_ GE674.out|refine below_set ?_ GE685.out)|exact HB.out)⟩
      (try clear HO677)
      (try clear HO683)
      (try clear BK672)
      (try clear BK673)
      (try clear BK674)
      (try clear BK685)
      (try clear HB)
      generalize ((((w12.setCell ⟨gb685,0,none⟩ (.slice Ao13 t675.length co13)).setCell ⟨gb685,1,none⟩ (.int .i64 t678)).setCell ⟨gb685,2,none⟩ (.string t679)).setCell ⟨gb685,3,none⟩ (.int .i64 t680))=w18 at n0_ n1_ n2_ n3_ n4_ n5_ n6_ ⊢
      have HO677:=n0_
      have HO683:=n1_
      have BK672:=n2_
      have BK673:=n3_
      have BK674:=n4_
      have BK685:=n5_
      have HB:=n6_
      clear n0_ n1_ n2_ n3_ n4_ n5_ n6_
      have n0_:=Aside0.mk (Kd.R_drew HO677.out)
      have n1_:=Aside0.mk (Kd.R_drew HO683.out)
      have n2_:=Aside0.mk (blk_drew BK672.out)
      have n3_:=Aside0.mk (blk_drew BK673.out)
      have n4_:=Aside0.mk (blk_drew BK674.out)
      have n5_:=Aside0.mk (blk_drew BK685.out)
      have n6_:=Aside0.mk (below_drew1 HB.out)
      clear HO677
      clear HO683
      clear BK672
      clear BK673
      clear BK674
      clear BK685
      clear HB
      have HO677:=n0_
      have HO683:=n1_
      have BK672:=n2_
      have BK673:=n3_
      have BK674:=n4_
      have BK685:=n5_
      have HB:=n6_
      clear n0_ n1_ n2_ n3_ n4_ n5_ n6_
      obtain ⟨Ao20,co20,eo20⟩:=Kd.R_slice HO683.out
      (first|subst eo20|(injection eo20 with f1_ f2_ f3_;have f4_:=f1_.symm;have f5_:=f3_.symm;clear f1_ f2_ f3_;subst f4_;subst f5_))
      have p686:0 ≤ (0:Int):=(by omega)
      have q686:0 < (t681.length:Int):=of_decide_eq_true (by first|(with_reducible assumption)|assumption)
      obtain ⟨ad686,e686,hx686_0,hx686_1⟩:=at_T79 (Kd.R_reads' HO683.out).2.2 0 p686 q686
      cases e686
      have qi686:(0 < t681.length)=True:=eq_true (by omega)
      (try rw [show ((0:Int)).toNat=0 from rfl] at hx686_0)
      (try rw [show 0 * 2=0 from rfl] at hx686_0)
      (try rw [Addr.add_zero'] at hx686_0)
      (try rw [show ((0:Int)).toNat=0 from rfl] at hx686_1)
      (try rw [show 0 * 2=0 from rfl] at hx686_1)
      (try rw [Addr.add_zero'] at hx686_1)
      replace p686:=eq_true p686
      replace q686:=eq_true q686
      refine start_ (n:=7) (S:=fun w'=> w'.cell? ⟨gb685,0,none⟩=some (.slice Ao13 t675.length co13) ∧ w'.cell? ⟨gb685,1,none⟩=some (.int .i64 t678) ∧ w'.cell? ⟨gb685,2,none⟩=some (.string t679) ∧ w'.cell? ⟨gb685,3,none⟩=some (.int .i64 t680) ∧ w'.cell? ad686=some (.int .i64 ((rd_T79 t681 0).f0)) ∧ w'.cell? ⟨ad686.block,ad686.off + 1,none⟩=some (.int .i64 ((rd_T79 t681 0).f1))) (ds:= []) #[false,false,false,false,false,false,false] (by kernel_rfl) rfl rfl ⟨(blk_cell BK685.out 0).trans rfl,(blk_cell BK685.out 1).trans rfl,(blk_cell BK685.out 2).trans rfl,(blk_cell BK685.out 3).trans rfl,hx686_0,hx686_1⟩ (fun hHeld=> ?_)
      generalize w18.drew=w19 at HO677 HO683 BK672 BK673 BK674 BK685 HB hx686_0 hx686_1 hHeld ⊢
      refine pure_ (i:=1) (N:=some 20) (v:=?_) (a':=?_) #[false,true,false,false,false,false,false] rfl rfl (by kernel_rfl) (fun _ _ _ h=> h) (Or.inl ⟨by rfl,?_⟩) ?_ ?_
      rotate_left
      · intro w'
        go_simp
        with_reducible rfl
      rotate_left
      · simp only [Act.put,List.setIfInBounds_toArray,List.set_cons_zero,List.set_cons_succ,i64_w,i32_w]
        rfl
      refine pure_ (i:=2) (N:=some 21) (v:=?_) (a':=?_) #[false,true,true,false,false,false,false] rfl rfl (by kernel_rfl) (fun _ _ _ h=> h) (Or.inl ⟨by rfl,?_⟩) ?_ ?_
      rotate_left
      · intro w'
        go_simp
        with_reducible rfl
      rotate_left
      · simp only [Act.put,List.setIfInBounds_toArray,List.set_cons_zero,List.set_cons_succ,i64_w,i32_w]
        rfl
      refine take_ (i:=0) (N:=some 19) (v:=?_) (a':=?_) #[true,true,true,false,false,false,false] rfl rfl (by kernel_rfl) (fun _ _ _ h=> h) (Or.inl ⟨by rfl,?_⟩) hHeld ?_ ?_
      rotate_left
      · rintro w' ⟨s0,s1,s2,s3,s4,s5⟩
        go_simp
        with_reducible rfl
      rotate_left
      · simp only [Act.put,List.setIfInBounds_toArray,List.set_cons_zero,List.set_cons_succ,i64_w,i32_w]
        rfl
      refine take_ (i:=3) (N:=some 22) (v:=?_) (a':=?_) #[true,true,true,true,false,false,false] rfl rfl (by kernel_rfl) (fun _ _ _ h=> h) (Or.inl ⟨by rfl,?_⟩) hHeld ?_ ?_
      rotate_left
      · rintro w' ⟨s0,s1,s2,s3,s4,s5⟩
        go_simp
        with_reducible rfl
      rotate_left
      · simp only [Act.put,List.setIfInBounds_toArray,List.set_cons_zero,List.set_cons_succ,i64_w,i32_w]
        rfl
      refine one_ (i:=4) (N:=none) #[true,true,true,true,true,false,false] rfl rfl (by kernel_rfl) (by decide) (fun K hK=> ?_)
      have hs21:w19.cell? ⟨gb673,0,none⟩=some (.slice none 0 0):=(blk_cell BK673.out 0).trans rfl
      have hfs21:=blk_frozen BK673.out 0
      have hns21_0:=NB672_673.out
      have hns21_2:=NB674_673.out
      have hns21_3:=NB685_673.out
      have hms21_0:=NB673_672.out
      have hms21_2:=NB673_674.out
      have hms21_3:=NB673_685.out
      have hs22:w19.cell? ⟨gb673,1,none⟩=some (.int .i64 0):=(blk_cell BK673.out 1).trans rfl
      have hfs22:=blk_frozen BK673.out 1
      have hns22_0:=NB672_673.out
      have hns22_2:=NB674_673.out
      have hns22_3:=NB685_673.out
      have hms22_0:=NB673_672.out
      have hms22_2:=NB673_674.out
      have hms22_3:=NB673_685.out
      have hs23:w19.cell? ⟨gb673,2,none⟩=some (.string (⟨#[]⟩:ByteArray)):=(blk_cell BK673.out 2).trans rfl
      have hfs23:=blk_frozen BK673.out 2
      have hns23_0:=NB672_673.out
      have hns23_2:=NB674_673.out
      have hns23_3:=NB685_673.out
      have hms23_0:=NB673_672.out
      have hms23_2:=NB673_674.out
      have hms23_3:=NB673_685.out
      have hs24:w19.cell? ⟨gb673,3,none⟩=some (.int .i64 0):=(blk_cell BK673.out 3).trans rfl
      have hfs24:=blk_frozen BK673.out 3
      have hns24_0:=NB672_673.out
      have hns24_2:=NB674_673.out
      have hns24_3:=NB685_673.out
      have hms24_0:=NB673_672.out
      have hms24_2:=NB673_674.out
      have hms24_3:=NB673_685.out
      refine skip_ (w1:=?_) (by rfl) rfl ?_ ?_
      rotate_left
      · go_simp
        rfl
      refine hK.out _ _ ⟨((cell_far (p:=⟨gb673,_,none⟩) NB685_673.out _).trans (((cell_far (p:=⟨gb673,_,none⟩) NB685_673.out _).trans (((cell_far (p:=⟨gb673,_,none⟩) NB685_673.out _).trans (((cell_far (p:=⟨gb673,_,none⟩) NB685_673.out _).trans (hHeld.1)))))))),((cell_far (p:=⟨gb673,_,none⟩) NB685_673.out _).trans (((cell_far (p:=⟨gb673,_,none⟩) NB685_673.out _).trans (((cell_far (p:=⟨gb673,_,none⟩) NB685_673.out _).trans (((cell_far (p:=⟨gb673,_,none⟩) NB685_673.out _).trans (hHeld.2.1)))))))),((cell_far (p:=⟨gb673,_,none⟩) NB685_673.out _).trans (((cell_far (p:=⟨gb673,_,none⟩) NB685_673.out _).trans (((cell_far (p:=⟨gb673,_,none⟩) NB685_673.out _).trans (((cell_far (p:=⟨gb673,_,none⟩) NB685_673.out _).trans (hHeld.2.2.1)))))))),((cell_far (p:=⟨gb673,_,none⟩) NB685_673.out _).trans (((cell_far (p:=⟨gb673,_,none⟩) NB685_673.out _).trans (((cell_far (p:=⟨gb673,_,none⟩) NB685_673.out _).trans (((cell_far (p:=⟨gb673,_,none⟩) NB685_673.out _).trans (hHeld.2.2.2.1)))))))),((cell_far (p:=⟨gb673,_,none⟩) (by first|exact Kd.own_blk (Kd.R_ne HO683.out BK673.out (by decide))|(rw [add_block];exact Kd.own_blk (Kd.R_ne HO683.out BK673.out (by decide)))|(show (Addr.add _ _).block ≠ _;rw [add_block];exact Kd.own_blk (Kd.R_ne HO683.out BK673.out (by decide)))|(dsimp only;exact Kd.own_blk (Kd.R_ne HO683.out BK673.out (by decide)))) _).trans (((cell_far (p:=⟨gb673,_,none⟩) (by first|exact Kd.own_blk (Kd.R_ne HO683.out BK673.out (by decide))|(rw [add_block];exact Kd.own_blk (Kd.R_ne HO683.out BK673.out (by decide)))|(show (Addr.add _ _).block ≠ _;rw [add_block];exact Kd.own_blk (Kd.R_ne HO683.out BK673.out (by decide)))|(dsimp only;exact Kd.own_blk (Kd.R_ne HO683.out BK673.out (by decide)))) _).trans (((cell_far (p:=⟨gb673,_,none⟩) (by first|exact Kd.own_blk (Kd.R_ne HO683.out BK673.out (by decide))|(rw [add_block];exact Kd.own_blk (Kd.R_ne HO683.out BK673.out (by decide)))|(show (Addr.add _ _).block ≠ _;rw [add_block];exact Kd.own_blk (Kd.R_ne HO683.out BK673.out (by decide)))|(dsimp only;exact Kd.own_blk (Kd.R_ne HO683.out BK673.out (by decide)))) _).trans (((cell_far (p:=⟨gb673,_,none⟩) (by first|exact Kd.own_blk (Kd.R_ne HO683.out BK673.out (by decide))|(rw [add_block];exact Kd.own_blk (Kd.R_ne HO683.out BK673.out (by decide)))|(show (Addr.add _ _).block ≠ _;rw [add_block];exact Kd.own_blk (Kd.R_ne HO683.out BK673.out (by decide)))|(dsimp only;exact Kd.own_blk (Kd.R_ne HO683.out BK673.out (by decide)))) _).trans (hHeld.2.2.2.2.1)))))))),((cell_far (p:=⟨gb673,_,none⟩) (by first|exact Kd.own_blk (Kd.R_ne HO683.out BK673.out (by decide))|(rw [add_block];exact Kd.own_blk (Kd.R_ne HO683.out BK673.out (by decide)))|(show (Addr.add _ _).block ≠ _;rw [add_block];exact Kd.own_blk (Kd.R_ne HO683.out BK673.out (by decide)))|(dsimp only;exact Kd.own_blk (Kd.R_ne HO683.out BK673.out (by decide)))) _).trans (((cell_far (p:=⟨gb673,_,none⟩) (by first|exact Kd.own_blk (Kd.R_ne HO683.out BK673.out (by decide))|(rw [add_block];exact Kd.own_blk (Kd.R_ne HO683.out BK673.out (by decide)))|(show (Addr.add _ _).block ≠ _;rw [add_block];exact Kd.own_blk (Kd.R_ne HO683.out BK673.out (by decide)))|(dsimp only;exact Kd.own_blk (Kd.R_ne HO683.out BK673.out (by decide)))) _).trans (((cell_far (p:=⟨gb673,_,none⟩) (by first|exact Kd.own_blk (Kd.R_ne HO683.out BK673.out (by decide))|(rw [add_block];exact Kd.own_blk (Kd.R_ne HO683.out BK673.out (by decide)))|(show (Addr.add _ _).block ≠ _;rw [add_block];exact Kd.own_blk (Kd.R_ne HO683.out BK673.out (by decide)))|(dsimp only;exact Kd.own_blk (Kd.R_ne HO683.out BK673.out (by decide)))) _).trans (((cell_far (p:=⟨gb673,_,none⟩) (by first|exact Kd.own_blk (Kd.R_ne HO683.out BK673.out (by decide))|(rw [add_block];exact Kd.own_blk (Kd.R_ne HO683.out BK673.out (by decide)))|(show (Addr.add _ _).block ≠ _;rw [add_block];exact Kd.own_blk (Kd.R_ne HO683.out BK673.out (by decide)))|(dsimp only;exact Kd.own_blk (Kd.R_ne HO683.out BK673.out (by decide)))) _).trans (hHeld.2.2.2.2.2))))))))⟩ (fun hHeld=> ?_)
      clear hK K
      refine one_ (i:=5) (N:=none) #[true,true,true,true,true,true,false] rfl rfl (by kernel_rfl) (by decide) (fun K hK=> ?_)
      have hs25:w19.cell? ⟨gb674,0,none⟩=some (.int .i64 0):=(blk_cell BK674.out 0).trans rfl
      have hfs25:=blk_frozen BK674.out 0
      have hns25_0:=NB672_674.out
      have hns25_1:=NB673_674.out
      have hns25_3:=NB685_674.out
      have hms25_0:=NB674_672.out
      have hms25_1:=NB674_673.out
      have hms25_3:=NB674_685.out
      have hs26:w19.cell? ⟨gb674,1,none⟩=some (.int .i64 0):=(blk_cell BK674.out 1).trans rfl
      have hfs26:=blk_frozen BK674.out 1
      have hns26_0:=NB672_674.out
      have hns26_1:=NB673_674.out
      have hns26_3:=NB685_674.out
      have hms26_0:=NB674_672.out
      have hms26_1:=NB674_673.out
      have hms26_3:=NB674_685.out
      refine skip_ (w1:=?_) (by rfl) rfl ?_ ?_
      rotate_left
      · go_simp
        rfl
      refine hK.out _ _ ⟨((cell_far (p:=⟨gb674,_,none⟩) NB685_674.out _).trans (((cell_far (p:=⟨gb674,_,none⟩) NB685_674.out _).trans (hHeld.1)))),((cell_far (p:=⟨gb674,_,none⟩) NB685_674.out _).trans (((cell_far (p:=⟨gb674,_,none⟩) NB685_674.out _).trans (hHeld.2.1)))),((cell_far (p:=⟨gb674,_,none⟩) NB685_674.out _).trans (((cell_far (p:=⟨gb674,_,none⟩) NB685_674.out _).trans (hHeld.2.2.1)))),((cell_far (p:=⟨gb674,_,none⟩) NB685_674.out _).trans (((cell_far (p:=⟨gb674,_,none⟩) NB685_674.out _).trans (hHeld.2.2.2.1)))),((cell_far (p:=⟨gb674,_,none⟩) (by first|exact Kd.own_blk (Kd.R_away HO683.out (fun _ hk=> hk.2))|(rw [add_block];exact Kd.own_blk (Kd.R_away HO683.out (fun _ hk=> hk.2)))|(show (Addr.add _ _).block ≠ _;rw [add_block];exact Kd.own_blk (Kd.R_away HO683.out (fun _ hk=> hk.2)))|(dsimp only;exact Kd.own_blk (Kd.R_away HO683.out (fun _ hk=> hk.2)))) _).trans (((cell_far (p:=⟨gb674,_,none⟩) (by first|exact Kd.own_blk (Kd.R_away HO683.out (fun _ hk=> hk.2))|(rw [add_block];exact Kd.own_blk (Kd.R_away HO683.out (fun _ hk=> hk.2)))|(show (Addr.add _ _).block ≠ _;rw [add_block];exact Kd.own_blk (Kd.R_away HO683.out (fun _ hk=> hk.2)))|(dsimp only;exact Kd.own_blk (Kd.R_away HO683.out (fun _ hk=> hk.2)))) _).trans (hHeld.2.2.2.2.1)))),((cell_far (p:=⟨gb674,_,none⟩) (by first|exact Kd.own_blk (Kd.R_away HO683.out (fun _ hk=> hk.2))|(rw [add_block];exact Kd.own_blk (Kd.R_away HO683.out (fun _ hk=> hk.2)))|(show (Addr.add _ _).block ≠ _;rw [add_block];exact Kd.own_blk (Kd.R_away HO683.out (fun _ hk=> hk.2)))|(dsimp only;exact Kd.own_blk (Kd.R_away HO683.out (fun _ hk=> hk.2)))) _).trans (((cell_far (p:=⟨gb674,_,none⟩) (by first|exact Kd.own_blk (Kd.R_away HO683.out (fun _ hk=> hk.2))|(rw [add_block];exact Kd.own_blk (Kd.R_away HO683.out (fun _ hk=> hk.2)))|(show (Addr.add _ _).block ≠ _;rw [add_block];exact Kd.own_blk (Kd.R_away HO683.out (fun _ hk=> hk.2)))|(dsimp only;exact Kd.own_blk (Kd.R_away HO683.out (fun _ hk=> hk.2)))) _).trans (hHeld.2.2.2.2.2))))⟩ (fun hHeld=> ?_)
      clear hK K
      refine pure_ (i:=6) (N:=some 4) (v:=?_) (a':=?_) #[true,true,true,true,true,true,true] rfl rfl (by kernel_rfl) (fun _ _ _ h=> h) (Or.inl ⟨by rfl,?_⟩) ?_ ?_
      rotate_left
      · intro w'
        go_simp
        with_reducible rfl
      rotate_left
      · simp only [Act.put,List.setIfInBounds_toArray,List.set_cons_zero,List.set_cons_succ,i64_w,i32_w]
        rfl
      refine done_ (by kernel_rfl) ?_
      try go_wp2
      refine bodyPost_ret (results_list (rs:= [.cell 2 36,.cell 3 79,.tmp 4]) rfl (by simp) (.cell gb673 36 #[.slice Ao13 t675.length co13,.int .i64 t678,.string t679,.int .i64 t680] (0,0) _ rfl (by (with_reducible repeat (first|apply bN|apply bd|apply bA));refine blk_far ?_ NB673_674.out _;(with_reducible repeat (first|apply bN|apply bd|apply bA));refine blk_far ?_ NB673_674.out _;(with_reducible repeat (first|apply bN|apply bd|apply bA));refine blk_put (cs:= #[.slice Ao13 t675.length co13,.int .i64 t678,.string t679,.int .i64 0]) ?_ 3 _ rfl;(with_reducible repeat (first|apply bN|apply bd|apply bA));refine blk_put (cs:= #[.slice Ao13 t675.length co13,.int .i64 t678,.string (⟨#[]⟩:ByteArray),.int .i64 0]) ?_ 2 _ rfl;(with_reducible repeat (first|apply bN|apply bd|apply bA));refine blk_put (cs:= #[.slice Ao13 t675.length co13,.int .i64 0,.string (⟨#[]⟩:ByteArray),.int .i64 0]) ?_ 1 _ rfl;(with_reducible repeat (first|apply bN|apply bd|apply bA));refine blk_put (cs:= #[.slice none 0 0,.int .i64 0,.string (⟨#[]⟩:ByteArray),.int .i64 0]) ?_ 0 _ rfl;(with_reducible repeat (first|apply bN|apply bd|apply bA));exact BK673.out) Try.underlying36 rfl (by kernel_rfl) (.cell gb674 79 #[.int .i64 ((rd_T79 t681 0).f0),.int .i64 ((rd_T79 t681 0).f1)] (0,0) _ rfl (by (with_reducible repeat (first|apply bN|apply bd|apply bA));refine blk_put (cs:= #[.int .i64 ((rd_T79 t681 0).f0),.int .i64 0]) ?_ 1 _ rfl;(with_reducible repeat (first|apply bN|apply bd|apply bA));refine blk_put (cs:= #[.int .i64 0,.int .i64 0]) ?_ 0 _ rfl;(with_reducible repeat (first|apply bN|apply bd|apply bA));refine blk_far ?_ NB674_673.out _;(with_reducible repeat (first|apply bN|apply bd|apply bA));refine blk_far ?_ NB674_673.out _;(with_reducible repeat (first|apply bN|apply bd|apply bA));refine blk_far ?_ NB674_673.out _;(with_reducible repeat (first|apply bN|apply bd|apply bA));refine blk_far ?_ NB674_673.out _;(with_reducible repeat (first|apply bN|apply bd|apply bA));exact BK674.out) Try.underlying79 rfl (by kernel_rfl) (.tmp .nil)))) rfl ?_
      exact ⟨_,by first|rfl|(simp [errW_none,errW_some] <;> rfl)|(simp [*,errW_none,errW_some] <;> rfl),by (with_reducible repeat (first|apply Kd.R_alloc|apply Kd.R_drewN|apply Kd.R_drew));exact Kd.R_mono (Kd.R_far (p:=⟨gb674,1,none⟩) (Kd.R_far (p:=⟨gb674,0,none⟩) (Kd.R_far (p:=⟨gb673,3,none⟩) (Kd.R_far (p:=⟨gb673,2,none⟩) (Kd.R_far (p:=⟨gb673,1,none⟩) (Kd.R_far (p:=⟨gb673,0,none⟩) (Kd.R_mono (Kd.R_types HO677.out BK673.out (by decide)) (fun k_ hk=> (⟨hk,hk.1.2⟩:_ ∧ k_ ≠ gb674))) (fun _ hk=> hk.1.2) (.slice Ao13 t675.length co13)) (fun _ hk=> hk.1.2) (.int .i64 t678)) (fun _ hk=> hk.1.2) (.string t679)) (fun _ hk=> hk.1.2) (.int .i64 t680)) (fun _ hk=> hk.2) (.int .i64 ((rd_T79 t681 0).f0))) (fun _ hk=> hk.2) (.int .i64 ((rd_T79 t681 0).f1))) (fun _ hk=> trivial),by repeat (first|(with_reducible first|exact HB.out|apply below_alloc|apply pw_below_drewN|apply below_drew1|refine below_set ?_ GE672.out|refine below_set ?_ GE673.out|refine below_set ?_ GE674.out|refine below_set ?_ GE685.out)|exact HB.out)⟩
    · rw [if_neg c4] at H
      exact absurd H (by simp)
  · rw [if_neg c3] at H
    have c3b0:(t684==0)=false:=beq_eq_false_iff_ne.mpr c3
    have c3b1:(t684 !=0)=true:=bne_iff_ne.mpr c3
    simp only [Option.some.injEq,Prod.mk.injEq] at H
    obtain ⟨rfl,rfl,rfl,rfl,rfl,rfl,rfl⟩:=H
    go_enter Try.func70,Try.ntmps70
    go_wp2_with (first|((with_reducible refine gate_dst (N:=1) rfl ?_);refine box_event ?hg (N:=1) ?hd (cs:= #[.slice A0_0 l0_0.length c0_0,.int .i64 a0_1,.string a0_2,.int .i64 a0_3]) (t:=36) ?hr ?_;(case hd=> rfl);(case hg=> rfl);(case hr=> first|(go_simp;done)|(go_simp;rfl));intro gb672 hg w27 hbox hb;have n0_:=Aside0.mk (below_step (by repeat (first|(with_reducible first|exact HB.out|apply below_alloc|apply pw_below_drewN|apply below_drew1)|exact HB.out)) hb);have n1_:=Aside0.mk (hbox);have n2_:=Aside0.mk ((by rw [hg];exact (below_size (by repeat (first|(with_reducible first|exact HB.out|apply below_alloc|apply pw_below_drewN|apply below_drew1)|exact HB.out))):w.heap.size ≤ gb672));have n3_:=Aside0.mk ((by rw [hg];exact (below_size (by repeat (first|(with_reducible first|exact HB.out|apply below_alloc|apply pw_below_drewN|apply below_drew1)|exact HB.out))):w.heap.size ≤ gb672));clear HB;have HB:=n0_;have BK672:=n1_;have GW672:=n2_;have GE672:=n3_;clear n0_ n1_ n2_ n3_;clear hb hbox hg)|((with_reducible refine gate_dst (N:=2) rfl ?_);refine box_event ?hg (N:=2) ?hd (cs:= #[.slice none 0 0,.int .i64 0,.string (⟨#[]⟩:ByteArray),.int .i64 0]) (t:=36) ?hr ?_;(case hd=> rfl);(case hg=> rfl);(case hr=> first|(go_simp;done)|(go_simp;rfl));intro gb673 hg w28 hbox hb;have n0_:=Aside0.mk (blk_below (g:=gb672) (o:= .cells #[.slice A0_0 l0_0.length c0_0,.int .i64 a0_1,.string a0_2,.int .i64 a0_3] 36 (0,0)) (by (with_reducible repeat (first|apply bN|apply bd|apply bA));exact BK672.out) hb);have n1_:=Aside0.mk (below_step (by repeat (first|(with_reducible first|exact HB.out|apply below_alloc|apply pw_below_drewN|apply below_drew1|refine below_set ?_ GE672.out)|exact HB.out)) hb);have n2_:=Aside0.mk (hbox);have n3_:=Aside0.mk ((by rw [hg];exact (below_size (by repeat (first|(with_reducible first|exact HB.out|apply below_alloc|apply pw_below_drewN|apply below_drew1|refine below_set ?_ GE672.out)|exact HB.out))):w.heap.size ≤ gb673));have n4_:=Aside0.mk ((by rw [hg];exact (below_size (by repeat (first|(with_reducible first|exact HB.out|apply below_alloc|apply pw_below_drewN|apply below_drew1|refine below_set ?_ GE672.out)|exact HB.out))):w.heap.size ≤ gb673));have n5_:=Aside0.mk ((by rw [hg];exact Nat.ne_of_lt (blk_lt (g:=gb672) (o:= .cells #[.slice A0_0 l0_0.length c0_0,.int .i64 a0_1,.string a0_2,.int .i64 a0_3] 36 (0,0)) (by (with_reducible repeat (first|apply bN|apply bd|apply bA));exact BK672.out)):gb672 ≠ gb673));have n6_:=Aside0.mk ((by rw [hg];exact Nat.ne_of_gt (blk_lt (g:=gb672) (o:= .cells #[.slice A0_0 l0_0.length c0_0,.int .i64 a0_1,.string a0_2,.int .i64 a0_3] 36 (0,0)) (by (with_reducible repeat (first|apply bN|apply bd|apply bA));exact BK672.out)):gb673 ≠ gb672));clear BK672;clear HB;have BK672:=n0_;have HB:=n1_;have BK673:=n2_;have GW673:=n3_;have GE673:=n4_;have NB672_673:=n5_;have NB673_672:=n6_;clear n0_ n1_ n2_ n3_ n4_ n5_ n6_;clear hb hbox hg)|((with_reducible refine gate_dst (N:=3) rfl ?_);refine box_event ?hg (N:=3) ?hd (cs:= #[.int .i64 0,.int .i64 0]) (t:=79) ?hr ?_;(case hd=> rfl);(case hg=> rfl);(case hr=> first|(go_simp;done)|(go_simp;rfl));intro gb674 hg w29 hbox hb;have n0_:=Aside0.mk (blk_below (g:=gb672) (o:= .cells #[.slice A0_0 l0_0.length c0_0,.int .i64 a0_1,.string a0_2,.int .i64 a0_3] 36 (0,0)) (by (with_reducible repeat (first|apply bN|apply bd|apply bA));exact BK672.out) hb);have n1_:=Aside0.mk (blk_below (g:=gb673) (o:= .cells #[.slice none 0 0,.int .i64 0,.string (⟨#[]⟩:ByteArray),.int .i64 0] 36 (0,0)) (by (with_reducible repeat (first|apply bN|apply bd|apply bA));exact BK673.out) hb);have n2_:=Aside0.mk (below_step (by repeat (first|(with_reducible first|exact HB.out|apply below_alloc|apply pw_below_drewN|apply below_drew1|refine below_set ?_ GE672.out|refine below_set ?_ GE673.out)|exact HB.out)) hb);have n3_:=Aside0.mk (hbox);have n4_:=Aside0.mk ((by rw [hg];exact (below_size (by repeat (first|(with_reducible first|exact HB.out|apply below_alloc|apply pw_below_drewN|apply below_drew1|refine below_set ?_ GE672.out|refine below_set ?_ GE673.out)|exact HB.out))):w.heap.size ≤ gb674));have n5_:=Aside0.mk ((by rw [hg];exact (below_size (by repeat (first|(with_reducible first|exact HB.out|apply below_alloc|apply pw_below_drewN|apply below_drew1|refine below_set ?_ GE672.out|refine below_set ?_ GE673.out)|exact HB.out))):w.heap.size ≤ gb674));have n6_:=Aside0.mk ((by rw [hg];exact Nat.ne_of_lt (blk_lt (g:=gb672) (o:= .cells #[.slice A0_0 l0_0.length c0_0,.int .i64 a0_1,.string a0_2,.int .i64 a0_3] 36 (0,0)) (by (with_reducible repeat (first|apply bN|apply bd|apply bA));exact BK672.out)):gb672 ≠ gb674));have n7_:=Aside0.mk ((by rw [hg];exact Nat.ne_of_gt (blk_lt (g:=gb672) (o:= .cells #[.slice A0_0 l0_0.length c0_0,.int .i64 a0_1,.string a0_2,.int .i64 a0_3] 36 (0,0)) (by (with_reducible repeat (first|apply bN|apply bd|apply bA));exact BK672.out)):gb674 ≠ gb672));have n8_:=Aside0.mk ((by rw [hg];exact Nat.ne_of_lt (blk_lt (g:=gb673) (o:= .cells #[.slice none 0 0,.int .i64 0,.string (⟨#[]⟩:ByteArray),.int .i64 0] 36 (0,0)) (by (with_reducible repeat (first|apply bN|apply bd|apply bA));exact BK673.out)):gb673 ≠ gb674));have n9_:=Aside0.mk ((by rw [hg];exact Nat.ne_of_gt (blk_lt (g:=gb673) (o:= .cells #[.slice none 0 0,.int .i64 0,.string (⟨#[]⟩:ByteArray),.int .i64 0] 36 (0,0)) (by (with_reducible repeat (first|apply bN|apply bd|apply bA));exact BK673.out)):gb674 ≠ gb673));clear BK672;clear BK673;clear HB;have BK672:=n0_;have BK673:=n1_;have HB:=n2_;have BK674:=n3_;have GW674:=n4_;have GE674:=n5_;have NB672_674:=n6_;have NB674_672:=n7_;have NB673_674:=n8_;have NB674_673:=n9_;clear n0_ n1_ n2_ n3_ n4_ n5_ n6_ n7_ n8_ n9_;clear hb hbox hg;have hnb30:=NB672_673.out;have hnc30:=NB673_672.out;have hnb31:=NB672_674.out;have hnc31:=NB674_672.out;have hcz32_0:w29.cell? ⟨gb672,0,none⟩=some (.slice A0_0 l0_0.length c0_0):=(blk_cell BK672.out 0).trans rfl;have hcz32_1:w29.cell? ⟨gb672,1,none⟩=some (.int .i64 a0_1):=(blk_cell BK672.out 1).trans rfl;have hcz32_2:w29.cell? ⟨gb672,2,none⟩=some (.string a0_2):=(blk_cell BK672.out 2).trans rfl;have hcz32_3:w29.cell? ⟨gb672,3,none⟩=some (.int .i64 a0_3):=(blk_cell BK672.out 3).trans rfl;have hfz32_0:=blk_frozen BK672.out 0;have hfz32_1:=blk_frozen BK672.out 1;have hfz32_2:=blk_frozen BK672.out 2;have hfz32_3:=blk_frozen BK672.out 3)|((with_reducible refine gate_callee (f:=73) rfl ?_);refine goesL_ (some 10) rfl rfl Try.func73 (by kernel_rfl) rfl #[.agg #[.slice A0_0 l0_0.length c0_0,.int .i64 a0_1,.string a0_2,.int .i64 a0_3],.int .i64 1] rfl (by (try simp only [List.map_toArray,List.map_cons,List.map_nil]);first|done|rfl|(simp only [List.length_drop,List.length_take];rfl)) ?_;(with_reducible refine (impl_TakeSome.calls _ _ l0_0 a0_1 a0_2 a0_3 1 t675 t678 t679 t680 t681 t684 _ ?side1 ?side2 A2.out).mono ?_);(case side1=> repeat (first|exact (Kd.C_below HR0_0.out HB.out)|(with_reducible refine Kd.C_alloc ?_ _)|(with_reducible refine Kd.C_drewN ?_ _)|(with_reducible refine Kd.C_drew ?_)));(case side2=> exact HC0_0.out);rintro e w33 ⟨v676,v682,rfl,ho0,ho1,hb⟩;refine ⟨_,rfl,?_⟩;have n0_:=Aside0.mk (Kd.R_lower (Kd.R_newB ho0 (g:=gb674) (o:= .cells #[.int .i64 0,.int .i64 0] 79 (0,0)) (by (with_reducible repeat (first|apply bN|apply bd|apply bA));exact BK674.out)) (below_size (by repeat (first|(with_reducible first|exact HB.out|apply below_alloc|apply pw_below_drewN|apply below_drew1|refine below_set ?_ GE672.out|refine below_set ?_ GE673.out|refine below_set ?_ GE674.out)|exact HB.out))));have n1_:=Aside0.mk (Kd.R_lower (Kd.R_newB ho1 (g:=gb674) (o:= .cells #[.int .i64 0,.int .i64 0] 79 (0,0)) (by (with_reducible repeat (first|apply bN|apply bd|apply bA));exact BK674.out)) (below_size (by repeat (first|(with_reducible first|exact HB.out|apply below_alloc|apply pw_below_drewN|apply below_drew1|refine below_set ?_ GE672.out|refine below_set ?_ GE673.out|refine below_set ?_ GE674.out)|exact HB.out))));have n2_:=Aside0.mk (blk_below (g:=gb672) (o:= .cells #[.slice A0_0 l0_0.length c0_0,.int .i64 a0_1,.string a0_2,.int .i64 a0_3] 36 (0,0)) (by (with_reducible repeat (first|apply bN|apply bd|apply bA));exact BK672.out) hb);have n3_:=Aside0.mk (blk_below (g:=gb673) (o:= .cells #[.slice none 0 0,.int .i64 0,.string (⟨#[]⟩:ByteArray),.int .i64 0] 36 (0,0)) (by (with_reducible repeat (first|apply bN|apply bd|apply bA));exact BK673.out) hb);have n4_:=Aside0.mk (blk_below (g:=gb674) (o:= .cells #[.int .i64 0,.int .i64 0] 79 (0,0)) (by (with_reducible repeat (first|apply bN|apply bd|apply bA));exact BK674.out) hb);have n5_:=Aside0.mk (below_step (by repeat (first|(with_reducible first|exact HB.out|apply below_alloc|apply pw_below_drewN|apply below_drew1|refine below_set ?_ GE672.out|refine below_set ?_ GE673.out|refine below_set ?_ GE674.out)|exact HB.out)) hb);clear BK672;clear BK673;clear BK674;clear HB;have HO677:=n0_;have HO683:=n1_;have BK672:=n2_;have BK673:=n3_;have BK674:=n4_;have HB:=n5_;clear n0_ n1_ n2_ n3_ n4_ n5_;(try clear hb);(try clear hb2);(try clear hk);(try clear hi);(try clear ho0);(try clear ho1))|((with_reducible refine gate_dst (N:=5) rfl ?_);refine box_event ?hg (N:=5) ?hd (cs:= #[.slice none 0 0,.int .i64 0,.string (⟨#[]⟩:ByteArray),.int .i64 0]) (t:=36) ?hr ?_;(case hd=> rfl);(case hg=> rfl);(case hr=> first|(go_simp;done)|(go_simp;rfl));intro gb685 hg w34 hbox hb;have n0_:=Aside0.mk (Kd.R_below (by (with_reducible repeat (first|apply Kd.R_alloc|apply Kd.R_drewN|apply Kd.R_drew));exact HO677.out) hb);have n1_:=Aside0.mk (Kd.R_below (by (with_reducible repeat (first|apply Kd.R_alloc|apply Kd.R_drewN|apply Kd.R_drew));exact HO683.out) hb);have n2_:=Aside0.mk (blk_below (g:=gb672) (o:= .cells #[.slice A0_0 l0_0.length c0_0,.int .i64 a0_1,.string a0_2,.int .i64 a0_3] 36 (0,0)) (by (with_reducible repeat (first|apply bN|apply bd|apply bA));exact BK672.out) hb);have n3_:=Aside0.mk (blk_below (g:=gb673) (o:= .cells #[.slice none 0 0,.int .i64 0,.string (⟨#[]⟩:ByteArray),.int .i64 0] 36 (0,0)) (by (with_reducible repeat (first|apply bN|apply bd|apply bA));exact BK673.out) hb);have n4_:=Aside0.mk (blk_below (g:=gb674) (o:= .cells #[.int .i64 0,.int .i64 0] 79 (0,0)) (by (with_reducible repeat (first|apply bN|apply bd|apply bA));exact BK674.out) hb);have n5_:=Aside0.mk (below_step (by repeat (first|(with_reducible first|exact HB.out|apply below_alloc|apply pw_below_drewN|apply below_drew1|refine below_set ?_ GE672.out|refine below_set ?_ GE673.out|refine below_set ?_ GE674.out)|exact HB.out)) hb);have n6_:=Aside0.mk (hbox);have n7_:=Aside0.mk ((by rw [hg];exact (below_size (by repeat (first|(with_reducible first|exact HB.out|apply below_alloc|apply pw_below_drewN|apply below_drew1|refine below_set ?_ GE672.out|refine below_set ?_ GE673.out|refine below_set ?_ GE674.out)|exact HB.out))):w.heap.size ≤ gb685));have n8_:=Aside0.mk ((by rw [hg];exact (below_size (by repeat (first|(with_reducible first|exact HB.out|apply below_alloc|apply pw_below_drewN|apply below_drew1|refine below_set ?_ GE672.out|refine below_set ?_ GE673.out|refine below_set ?_ GE674.out)|exact HB.out))):w.heap.size ≤ gb685));have n9_:=Aside0.mk ((by rw [hg];exact Nat.ne_of_lt (blk_lt (g:=gb672) (o:= .cells #[.slice A0_0 l0_0.length c0_0,.int .i64 a0_1,.string a0_2,.int .i64 a0_3] 36 (0,0)) (by (with_reducible repeat (first|apply bN|apply bd|apply bA));exact BK672.out)):gb672 ≠ gb685));have n10_:=Aside0.mk ((by rw [hg];exact Nat.ne_of_gt (blk_lt (g:=gb672) (o:= .cells #[.slice A0_0 l0_0.length c0_0,.int .i64 a0_1,.string a0_2,.int .i64 a0_3] 36 (0,0)) (by (with_reducible repeat (first|apply bN|apply bd|apply bA));exact BK672.out)):gb685 ≠ gb672));have n11_:=Aside0.mk ((by rw [hg];exact Nat.ne_of_lt (blk_lt (g:=gb673) (o:= .cells #[.slice none 0 0,.int .i64 0,.string (⟨#[]⟩:ByteArray),.int .i64 0] 36 (0,0)) (by (with_reducible repeat (first|apply bN|apply bd|apply bA));exact BK673.out)):gb673 ≠ gb685));have n12_:=Aside0.mk ((by rw [hg];exact Nat.ne_of_gt (blk_lt (g:=gb673) (o:= .cells #[.slice none 0 0,.int .i64 0,.string (⟨#[]⟩:ByteArray),.int .i64 0] 36 (0,0)) (by (with_reducible repeat (first|apply bN|apply bd|apply bA));exact BK673.out)):gb685 ≠ gb673));have n13_:=Aside0.mk ((by rw [hg];exact Nat.ne_of_lt (blk_lt (g:=gb674) (o:= .cells #[.int .i64 0,.int .i64 0] 79 (0,0)) (by (with_reducible repeat (first|apply bN|apply bd|apply bA));exact BK674.out)):gb674 ≠ gb685));have n14_:=Aside0.mk ((by rw [hg];exact Nat.ne_of_gt (blk_lt (g:=gb674) (o:= .cells #[.int .i64 0,.int .i64 0] 79 (0,0)) (by (with_reducible repeat (first|apply bN|apply bd|apply bA));exact BK674.out)):gb685 ≠ gb674));clear HO677;clear HO683;clear BK672;clear BK673;clear BK674;clear HB;have HO677:=n0_;have HO683:=n1_;have BK672:=n2_;have BK673:=n3_;have BK674:=n4_;have HB:=n5_;have BK685:=n6_;have GW685:=n7_;have GE685:=n8_;have NB672_685:=n9_;have NB685_672:=n10_;have NB673_685:=n11_;have NB685_673:=n12_;have NB674_685:=n13_;have NB685_674:=n14_;clear n0_ n1_ n2_ n3_ n4_ n5_ n6_ n7_ n8_ n9_ n10_ n11_ n12_ n13_ n14_;clear hb hbox hg;obtain ⟨Ao35,co35,eo35⟩:=Kd.R_slice HO677.out;subst eo35;have hnb36:=NB685_672.out;have hnc36:=NB672_685.out;have hnb37:=NB685_673.out;have hnc37:=NB673_685.out;have hnb38:=NB685_674.out;have hnc38:=NB674_685.out;have hcz39_0:w34.cell? ⟨gb685,0,none⟩=some (.slice none 0 0):=(blk_cell BK685.out 0).trans rfl;have hcz39_1:w34.cell? ⟨gb685,1,none⟩=some (.int .i64 0):=(blk_cell BK685.out 1).trans rfl;have hcz39_2:w34.cell? ⟨gb685,2,none⟩=some (.string (⟨#[]⟩:ByteArray)):=(blk_cell BK685.out 2).trans rfl;have hcz39_3:w34.cell? ⟨gb685,3,none⟩=some (.int .i64 0):=(blk_cell BK685.out 3).trans rfl;have hfz39_0:=blk_frozen BK685.out 0;have hfz39_1:=blk_frozen BK685.out 1;have hfz39_2:=blk_frozen BK685.out 2;have hfz39_3:=blk_frozen BK685.out 3;have hnb40:=NB673_674.out;have hnc40:=NB674_673.out;have hcz41_0:w34.cell? ⟨gb673,0,none⟩=some (.slice none 0 0):=(blk_cell BK673.out 0).trans rfl;have hcz41_1:w34.cell? ⟨gb673,1,none⟩=some (.int .i64 0):=(blk_cell BK673.out 1).trans rfl;have hcz41_2:w34.cell? ⟨gb673,2,none⟩=some (.string (⟨#[]⟩:ByteArray)):=(blk_cell BK673.out 2).trans rfl;have hcz41_3:w34.cell? ⟨gb673,3,none⟩=some (.int .i64 0):=(blk_cell BK673.out 3).trans rfl;have hfz41_0:=blk_frozen BK673.out 0;have hfz41_1:=blk_frozen BK673.out 1;have hfz41_2:=blk_frozen BK673.out 2;have hfz41_3:=blk_frozen BK673.out 3;have hcz42_0:w34.cell? ⟨gb674,0,none⟩=some (.int .i64 0):=(blk_cell BK674.out 0).trans rfl;have hcz42_1:w34.cell? ⟨gb674,1,none⟩=some (.int .i64 0):=(blk_cell BK674.out 1).trans rfl;have hfz42_0:=blk_frozen BK674.out 0;have hfz42_1:=blk_frozen BK674.out 1))
    refine bodyPost_ret (results_list (rs:= [.cell 2 36,.cell 3 79,.tmp 4]) rfl (by simp) (.cell gb673 36 #[.slice Ao35 t675.length co35,.int .i64 t678,.string t679,.int .i64 t680] (0,0) _ rfl (by (with_reducible repeat (first|apply bN|apply bd|apply bA));refine blk_far ?_ NB673_674.out _;(with_reducible repeat (first|apply bN|apply bd|apply bA));refine blk_far ?_ NB673_674.out _;(with_reducible repeat (first|apply bN|apply bd|apply bA));refine blk_put (cs:= #[.slice Ao35 t675.length co35,.int .i64 t678,.string t679,.int .i64 0]) ?_ 3 _ rfl;(with_reducible repeat (first|apply bN|apply bd|apply bA));refine blk_put (cs:= #[.slice Ao35 t675.length co35,.int .i64 t678,.string (⟨#[]⟩:ByteArray),.int .i64 0]) ?_ 2 _ rfl;(with_reducible repeat (first|apply bN|apply bd|apply bA));refine blk_put (cs:= #[.slice Ao35 t675.length co35,.int .i64 0,.string (⟨#[]⟩:ByteArray),.int .i64 0]) ?_ 1 _ rfl;(with_reducible repeat (first|apply bN|apply bd|apply bA));refine blk_put (cs:= #[.slice none 0 0,.int .i64 0,.string (⟨#[]⟩:ByteArray),.int .i64 0]) ?_ 0 _ rfl;(with_reducible repeat (first|apply bN|apply bd|apply bA));refine blk_far ?_ NB673_685.out _;(with_reducible repeat (first|apply bN|apply bd|apply bA));refine blk_far ?_ NB673_685.out _;(with_reducible repeat (first|apply bN|apply bd|apply bA));refine blk_far ?_ NB673_685.out _;(with_reducible repeat (first|apply bN|apply bd|apply bA));refine blk_far ?_ NB673_685.out _;(with_reducible repeat (first|apply bN|apply bd|apply bA));exact BK673.out) Try.underlying36 rfl (by kernel_rfl) (.cell gb674 79 #[.int .i64 0,.int .i64 0] (0,0) _ rfl (by (with_reducible repeat (first|apply bN|apply bd|apply bA));refine blk_put (cs:= #[.int .i64 0,.int .i64 0]) ?_ 1 _ rfl;(with_reducible repeat (first|apply bN|apply bd|apply bA));refine blk_put (cs:= #[.int .i64 0,.int .i64 0]) ?_ 0 _ rfl;(with_reducible repeat (first|apply bN|apply bd|apply bA));refine blk_far ?_ NB674_673.out _;(with_reducible repeat (first|apply bN|apply bd|apply bA));refine blk_far ?_ NB674_673.out _;(with_reducible repeat (first|apply bN|apply bd|apply bA));refine blk_far ?_ NB674_673.out _;(with_reducible repeat (first|apply bN|apply bd|apply bA));refine blk_far ?_ NB674_673.out _;(with_reducible repeat (first|apply bN|apply bd|apply bA));refine blk_far ?_ NB674_685.out _;(with_reducible repeat (first|apply bN|apply bd|apply bA));refine blk_far ?_ NB674_685.out _;(with_reducible repeat (first|apply bN|apply bd|apply bA));refine blk_far ?_ NB674_685.out _;(with_reducible repeat (first|apply bN|apply bd|apply bA));refine blk_far ?_ NB674_685.out _;(with_reducible repeat (first|apply bN|apply bd|apply bA));exact BK674.out) Try.underlying79 rfl (by kernel_rfl) (.tmp .nil)))) rfl ?_
    exact ⟨_,by first|rfl|(simp [errW_none,errW_some] <;> rfl)|(simp [*,errW_none,errW_some] <;> rfl),by (with_reducible repeat (first|apply Kd.R_alloc|apply Kd.R_drewN|apply Kd.R_drew));exact Kd.R_mono (Kd.R_far (p:=⟨gb674,1,none⟩) (Kd.R_far (p:=⟨gb674,0,none⟩) (Kd.R_far (p:=⟨gb673,3,none⟩) (Kd.R_far (p:=⟨gb673,2,none⟩) (Kd.R_far (p:=⟨gb673,1,none⟩) (Kd.R_far (p:=⟨gb673,0,none⟩) (Kd.R_far (p:=⟨gb685,3,none⟩) (Kd.R_far (p:=⟨gb685,2,none⟩) (Kd.R_far (p:=⟨gb685,1,none⟩) (Kd.R_far (p:=⟨gb685,0,none⟩) (Kd.R_mono (Kd.R_types (Kd.R_types HO677.out BK685.out (by decide)) BK673.out (by decide)) (fun k_ hk=> (⟨hk,hk.1.1.2⟩:_ ∧ k_ ≠ gb674))) (fun _ hk=> hk.1.1.2) (.slice Ao35 t675.length co35)) (fun _ hk=> hk.1.1.2) (.int .i64 t678)) (fun _ hk=> hk.1.1.2) (.string t679)) (fun _ hk=> hk.1.1.2) (.int .i64 t680)) (fun _ hk=> hk.1.2) (.slice Ao35 t675.length co35)) (fun _ hk=> hk.1.2) (.int .i64 t678)) (fun _ hk=> hk.1.2) (.string t679)) (fun _ hk=> hk.1.2) (.int .i64 t680)) (fun _ hk=> hk.2) (.int .i64 0)) (fun _ hk=> hk.2) (.int .i64 0)) (fun _ hk=> trivial),by repeat (first|(with_reducible first|exact HB.out|apply below_alloc|apply pw_below_drewN|apply below_drew1|refine below_set ?_ GE672.out|refine below_set ?_ GE673.out|refine below_set ?_ GE674.out|refine below_set ?_ GE685.out)|exact HB.out)⟩
def laws_eqExt.f (a0_0:Int) (a0_1:Int) (a1_0:Int) (a1_1:Int):Option (Bool):=if a0_0=a1_0 then (if a0_1=a1_1 then (some true) else (some false)) else (some false)
set_option maxHeartbeats 8000000 in
set_option maxRecDepth 100000 in
theorem laws_eqExt.calls (a0_0:Int) (a0_1:Int) (a1_0:Int) (a1_1:Int) (r:Bool) (w:World) (h:laws_eqExt.f a0_0 a0_1 a1_0 a1_1=some r):
    Calls Try.prog 71 #[.agg #[.int .i64 a0_0,.int .i64 a0_1],.agg #[.int .i64 a1_0,.int .i64 a1_1]] w fun e w'=> e= .returned (.bool r) ∧ Below w.heap.size w w':=by
  have hu79:=Try.underlying79
  have HB:=Aside0.mk (Below.refl w.heap.size w)
  have H:(if a0_0=a1_0 then (if a0_1=a1_1 then (some true) else (some false)) else (some false))=some r:=h
  clear h
  by_cases c3:a0_0=a1_0
  · rw [if_pos c3] at H
    have c3b0:(a0_0==a1_0)=true:=beq_iff_eq.mpr c3
    have c3b1:(a0_0 !=a1_0)=false:=bne_eq_false_iff_eq.mpr c3
    clear c3
    by_cases c4:a0_1=a1_1
    · rw [if_pos c4] at H
      have c4b0:(a0_1==a1_1)=true:=beq_iff_eq.mpr c4
      have c4b1:(a0_1 !=a1_1)=false:=bne_eq_false_iff_eq.mpr c4
      clear c4
      obtain rfl:=Option.some.inj H
      go_enter Try.func71,Try.ntmps71
      go_wp2_with (first|((with_reducible refine gate_dst (N:=2) rfl ?_);refine box_event ?hg (N:=2) ?hd (cs:= #[.int .i64 a0_0,.int .i64 a0_1]) (t:=79) ?hr ?_;(case hd=> rfl);(case hg=> rfl);(case hr=> first|(go_simp;done)|(go_simp;rfl));intro gb162 hg w5 hbox hb;have n0_:=Aside0.mk (below_step (by repeat (first|(with_reducible first|exact HB.out|apply below_alloc|apply pw_below_drewN|apply below_drew1)|exact HB.out)) hb);have n1_:=Aside0.mk (hbox);have n2_:=Aside0.mk ((by rw [hg];exact (below_size (by repeat (first|(with_reducible first|exact HB.out|apply below_alloc|apply pw_below_drewN|apply below_drew1)|exact HB.out))):w.heap.size ≤ gb162));have n3_:=Aside0.mk ((by rw [hg];exact (below_size (by repeat (first|(with_reducible first|exact HB.out|apply below_alloc|apply pw_below_drewN|apply below_drew1)|exact HB.out))):w.heap.size ≤ gb162));clear HB;have HB:=n0_;have BK162:=n1_;have GW162:=n2_;have GE162:=n3_;clear n0_ n1_ n2_ n3_;clear hb hbox hg)|((with_reducible refine gate_dst (N:=3) rfl ?_);refine box_event ?hg (N:=3) ?hd (cs:= #[.int .i64 a1_0,.int .i64 a1_1]) (t:=79) ?hr ?_;(case hd=> rfl);(case hg=> rfl);(case hr=> first|(go_simp;done)|(go_simp;rfl));intro gb163 hg w6 hbox hb;have n0_:=Aside0.mk (blk_below (g:=gb162) (o:= .cells #[.int .i64 a0_0,.int .i64 a0_1] 79 (0,0)) (by (with_reducible repeat (first|apply bN|apply bd|apply bA));exact BK162.out) hb);have n1_:=Aside0.mk (below_step (by repeat (first|(with_reducible first|exact HB.out|apply below_alloc|apply pw_below_drewN|apply below_drew1|refine below_set ?_ GE162.out)|exact HB.out)) hb);have n2_:=Aside0.mk (hbox);have n3_:=Aside0.mk ((by rw [hg];exact (below_size (by repeat (first|(with_reducible first|exact HB.out|apply below_alloc|apply pw_below_drewN|apply below_drew1|refine below_set ?_ GE162.out)|exact HB.out))):w.heap.size ≤ gb163));have n4_:=Aside0.mk ((by rw [hg];exact (below_size (by repeat (first|(with_reducible first|exact HB.out|apply below_alloc|apply pw_below_drewN|apply below_drew1|refine below_set ?_ GE162.out)|exact HB.out))):w.heap.size ≤ gb163));have n5_:=Aside0.mk ((by rw [hg];exact Nat.ne_of_lt (blk_lt (g:=gb162) (o:= .cells #[.int .i64 a0_0,.int .i64 a0_1] 79 (0,0)) (by (with_reducible repeat (first|apply bN|apply bd|apply bA));exact BK162.out)):gb162 ≠ gb163));have n6_:=Aside0.mk ((by rw [hg];exact Nat.ne_of_gt (blk_lt (g:=gb162) (o:= .cells #[.int .i64 a0_0,.int .i64 a0_1] 79 (0,0)) (by (with_reducible repeat (first|apply bN|apply bd|apply bA));exact BK162.out)):gb163 ≠ gb162));clear BK162;clear HB;have BK162:=n0_;have HB:=n1_;have BK163:=n2_;have GW163:=n3_;have GE163:=n4_;have NB162_163:=n5_;have NB163_162:=n6_;clear n0_ n1_ n2_ n3_ n4_ n5_ n6_;clear hb hbox hg;have hnb7:=NB162_163.out;have hnc7:=NB163_162.out;have hcz8_0:w6.cell? ⟨gb162,0,none⟩=some (.int .i64 a0_0):=(blk_cell BK162.out 0).trans rfl;have hcz8_1:w6.cell? ⟨gb162,1,none⟩=some (.int .i64 a0_1):=(blk_cell BK162.out 1).trans rfl;have hfz8_0:=blk_frozen BK162.out 0;have hfz8_1:=blk_frozen BK162.out 1;have hcz9_0:w6.cell? ⟨gb163,0,none⟩=some (.int .i64 a1_0):=(blk_cell BK163.out 0).trans rfl;have hcz9_1:w6.cell? ⟨gb163,1,none⟩=some (.int .i64 a1_1):=(blk_cell BK163.out 1).trans rfl;have hfz9_0:=blk_frozen BK163.out 0;have hfz9_1:=blk_frozen BK163.out 1))
      go_ret
      exact ⟨by first|rfl|(simp [errW_none,errW_some] <;> rfl)|(simp [*,errW_none,errW_some] <;> rfl),by repeat (first|(with_reducible first|exact HB.out|apply below_alloc|apply pw_below_drewN|apply below_drew1|refine below_set ?_ GE162.out|refine below_set ?_ GE163.out)|exact HB.out)⟩
    · rw [if_neg c4] at H
      have c4b0:(a0_1==a1_1)=false:=beq_eq_false_iff_ne.mpr c4
      have c4b1:(a0_1 !=a1_1)=true:=bne_iff_ne.mpr c4
      obtain rfl:=Option.some.inj H
      go_enter Try.func71,Try.ntmps71
      go_wp2_with (first|((with_reducible refine gate_dst (N:=2) rfl ?_);refine box_event ?hg (N:=2) ?hd (cs:= #[.int .i64 a0_0,.int .i64 a0_1]) (t:=79) ?hr ?_;(case hd=> rfl);(case hg=> rfl);(case hr=> first|(go_simp;done)|(go_simp;rfl));intro gb162 hg w10 hbox hb;have n0_:=Aside0.mk (below_step (by repeat (first|(with_reducible first|exact HB.out|apply below_alloc|apply pw_below_drewN|apply below_drew1)|exact HB.out)) hb);have n1_:=Aside0.mk (hbox);have n2_:=Aside0.mk ((by rw [hg];exact (below_size (by repeat (first|(with_reducible first|exact HB.out|apply below_alloc|apply pw_below_drewN|apply below_drew1)|exact HB.out))):w.heap.size ≤ gb162));have n3_:=Aside0.mk ((by rw [hg];exact (below_size (by repeat (first|(with_reducible first|exact HB.out|apply below_alloc|apply pw_below_drewN|apply below_drew1)|exact HB.out))):w.heap.size ≤ gb162));clear HB;have HB:=n0_;have BK162:=n1_;have GW162:=n2_;have GE162:=n3_;clear n0_ n1_ n2_ n3_;clear hb hbox hg)|((with_reducible refine gate_dst (N:=3) rfl ?_);refine box_event ?hg (N:=3) ?hd (cs:= #[.int .i64 a1_0,.int .i64 a1_1]) (t:=79) ?hr ?_;(case hd=> rfl);(case hg=> rfl);(case hr=> first|(go_simp;done)|(go_simp;rfl));intro gb163 hg w11 hbox hb;have n0_:=Aside0.mk (blk_below (g:=gb162) (o:= .cells #[.int .i64 a0_0,.int .i64 a0_1] 79 (0,0)) (by (with_reducible repeat (first|apply bN|apply bd|apply bA));exact BK162.out) hb);have n1_:=Aside0.mk (below_step (by repeat (first|(with_reducible first|exact HB.out|apply below_alloc|apply pw_below_drewN|apply below_drew1|refine below_set ?_ GE162.out)|exact HB.out)) hb);have n2_:=Aside0.mk (hbox);have n3_:=Aside0.mk ((by rw [hg];exact (below_size (by repeat (first|(with_reducible first|exact HB.out|apply below_alloc|apply pw_below_drewN|apply below_drew1|refine below_set ?_ GE162.out)|exact HB.out))):w.heap.size ≤ gb163));have n4_:=Aside0.mk ((by rw [hg];exact (below_size (by repeat (first|(with_reducible first|exact HB.out|apply below_alloc|apply pw_below_drewN|apply below_drew1|refine below_set ?_ GE162.out)|exact HB.out))):w.heap.size ≤ gb163));have n5_:=Aside0.mk ((by rw [hg];exact Nat.ne_of_lt (blk_lt (g:=gb162) (o:= .cells #[.int .i64 a0_0,.int .i64 a0_1] 79 (0,0)) (by (with_reducible repeat (first|apply bN|apply bd|apply bA));exact BK162.out)):gb162 ≠ gb163));have n6_:=Aside0.mk ((by rw [hg];exact Nat.ne_of_gt (blk_lt (g:=gb162) (o:= .cells #[.int .i64 a0_0,.int .i64 a0_1] 79 (0,0)) (by (with_reducible repeat (first|apply bN|apply bd|apply bA));exact BK162.out)):gb163 ≠ gb162));clear BK162;clear HB;have BK162:=n0_;have HB:=n1_;have BK163:=n2_;have GW163:=n3_;have GE163:=n4_;have NB162_163:=n5_;have NB163_162:=n6_;clear n0_ n1_ n2_ n3_ n4_ n5_ n6_;clear hb hbox hg;have hnb12:=NB162_163.out;have hnc12:=NB163_162.out;have hcz13_0:w11.cell? ⟨gb162,0,none⟩=some (.int .i64 a0_0):=(blk_cell BK162.out 0).trans rfl;have hcz13_1:w11.cell? ⟨gb162,1,none⟩=some (.int .i64 a0_1):=(blk_cell BK162.out 1).trans rfl;have hfz13_0:=blk_frozen BK162.out 0;have hfz13_1:=blk_frozen BK162.out 1;have hcz14_0:w11.cell? ⟨gb163,0,none⟩=some (.int .i64 a1_0):=(blk_cell BK163.out 0).trans rfl;have hcz14_1:w11.cell? ⟨gb163,1,none⟩=some (.int .i64 a1_1):=(blk_cell BK163.out 1).trans rfl;have hfz14_0:=blk_frozen BK163.out 0;have hfz14_1:=blk_frozen BK163.out 1))
      go_ret
      exact ⟨by first|rfl|(simp [errW_none,errW_some] <;> rfl)|(simp [*,errW_none,errW_some] <;> rfl),by repeat (first|(with_reducible first|exact HB.out|apply below_alloc|apply pw_below_drewN|apply below_drew1|refine below_set ?_ GE162.out|refine below_set ?_ GE163.out)|exact HB.out)⟩
  · rw [if_neg c3] at H
    have c3b0:(a0_0==a1_0)=false:=beq_eq_false_iff_ne.mpr c3
    have c3b1:(a0_0 !=a1_0)=true:=bne_iff_ne.mpr c3
    obtain rfl:=Option.some.inj H
    go_enter Try.func71,Try.ntmps71
    go_wp2_with (first|((with_reducible refine gate_dst (N:=2) rfl ?_);refine box_event ?hg (N:=2) ?hd (cs:= #[.int .i64 a0_0,.int .i64 a0_1]) (t:=79) ?hr ?_;(case hd=> rfl);(case hg=> rfl);(case hr=> first|(go_simp;done)|(go_simp;rfl));intro gb162 hg w15 hbox hb;have n0_:=Aside0.mk (below_step (by repeat (first|(with_reducible first|exact HB.out|apply below_alloc|apply pw_below_drewN|apply below_drew1)|exact HB.out)) hb);have n1_:=Aside0.mk (hbox);have n2_:=Aside0.mk ((by rw [hg];exact (below_size (by repeat (first|(with_reducible first|exact HB.out|apply below_alloc|apply pw_below_drewN|apply below_drew1)|exact HB.out))):w.heap.size ≤ gb162));have n3_:=Aside0.mk ((by rw [hg];exact (below_size (by repeat (first|(with_reducible first|exact HB.out|apply below_alloc|apply pw_below_drewN|apply below_drew1)|exact HB.out))):w.heap.size ≤ gb162));clear HB;have HB:=n0_;have BK162:=n1_;have GW162:=n2_;have GE162:=n3_;clear n0_ n1_ n2_ n3_;clear hb hbox hg)|((with_reducible refine gate_dst (N:=3) rfl ?_);refine box_event ?hg (N:=3) ?hd (cs:= #[.int .i64 a1_0,.int .i64 a1_1]) (t:=79) ?hr ?_;(case hd=> rfl);(case hg=> rfl);(case hr=> first|(go_simp;done)|(go_simp;rfl));intro gb163 hg w16 hbox hb;have n0_:=Aside0.mk (blk_below (g:=gb162) (o:= .cells #[.int .i64 a0_0,.int .i64 a0_1] 79 (0,0)) (by (with_reducible repeat (first|apply bN|apply bd|apply bA));exact BK162.out) hb);have n1_:=Aside0.mk (below_step (by repeat (first|(with_reducible first|exact HB.out|apply below_alloc|apply pw_below_drewN|apply below_drew1|refine below_set ?_ GE162.out)|exact HB.out)) hb);have n2_:=Aside0.mk (hbox);have n3_:=Aside0.mk ((by rw [hg];exact (below_size (by repeat (first|(with_reducible first|exact HB.out|apply below_alloc|apply pw_below_drewN|apply below_drew1|refine below_set ?_ GE162.out)|exact HB.out))):w.heap.size ≤ gb163));have n4_:=Aside0.mk ((by rw [hg];exact (below_size (by repeat (first|(with_reducible first|exact HB.out|apply below_alloc|apply pw_below_drewN|apply below_drew1|refine below_set ?_ GE162.out)|exact HB.out))):w.heap.size ≤ gb163));have n5_:=Aside0.mk ((by rw [hg];exact Nat.ne_of_lt (blk_lt (g:=gb162) (o:= .cells #[.int .i64 a0_0,.int .i64 a0_1] 79 (0,0)) (by (with_reducible repeat (first|apply bN|apply bd|apply bA));exact BK162.out)):gb162 ≠ gb163));have n6_:=Aside0.mk ((by rw [hg];exact Nat.ne_of_gt (blk_lt (g:=gb162) (o:= .cells #[.int .i64 a0_0,.int .i64 a0_1] 79 (0,0)) (by (with_reducible repeat (first|apply bN|apply bd|apply bA));exact BK162.out)):gb163 ≠ gb162));clear BK162;clear HB;have BK162:=n0_;have HB:=n1_;have BK163:=n2_;have GW163:=n3_;have GE163:=n4_;have NB162_163:=n5_;have NB163_162:=n6_;clear n0_ n1_ n2_ n3_ n4_ n5_ n6_;clear hb hbox hg;have hnb17:=NB162_163.out;have hnc17:=NB163_162.out;have hcz18_0:w16.cell? ⟨gb162,0,none⟩=some (.int .i64 a0_0):=(blk_cell BK162.out 0).trans rfl;have hcz18_1:w16.cell? ⟨gb162,1,none⟩=some (.int .i64 a0_1):=(blk_cell BK162.out 1).trans rfl;have hfz18_0:=blk_frozen BK162.out 0;have hfz18_1:=blk_frozen BK162.out 1;have hcz19_0:w16.cell? ⟨gb163,0,none⟩=some (.int .i64 a1_0):=(blk_cell BK163.out 0).trans rfl;have hcz19_1:w16.cell? ⟨gb163,1,none⟩=some (.int .i64 a1_1):=(blk_cell BK163.out 1).trans rfl;have hfz19_0:=blk_frozen BK163.out 0;have hfz19_1:=blk_frozen BK163.out 1))
    go_ret
    exact ⟨by first|rfl|(simp [errW_none,errW_some] <;> rfl)|(simp [*,errW_none,errW_some] <;> rfl),by repeat (first|(with_reducible first|exact HB.out|apply below_alloc|apply pw_below_drewN|apply below_drew1|refine below_set ?_ GE162.out|refine below_set ?_ GE163.out)|exact HB.out)⟩
def laws_eqExtS.l0:Nat → List (S79) → List (S79) → Int → Option (Bool)
  |0,_,_,_=> none
  |k + 1,x0,x1,x5=> if x5 < (x0.length:Int) then (if 0 ≤ x5 then (if x5 < (x1.length:Int) then ((laws_eqExt.f ((rd_T79 x0 x5).f0) ((rd_T79 x0 x5).f1) ((rd_T79 x1 x5).f0) ((rd_T79 x1 x5).f1)).bind fun t166=> (if t166=true then (laws_eqExtS.l0 k x0 x1 (wrap64 (x5 + 1))) else (some false))) else (none)) else (none)) else (some true)
def laws_eqExtS.f (k:Nat) (l0:List (S79)) (l1:List (S79)):Option (Bool):=if (l0.length:Int)=(l1.length:Int) then (laws_eqExtS.l0 k l0 l1 0) else (some false)
theorem laws_eqExtS.mono_l:∀ k,(∀ y0 y1 y2,LeO (laws_eqExtS.l0 k y0 y1 y2) (laws_eqExtS.l0 (k + 1) y0 y1 y2))
  |0=> fun _ _ _ r h=> by simp [laws_eqExtS.l0] at h
  |k + 1=> by
    have ih0:=laws_eqExtS.mono_l k
    · intro y0 y1 y2
      unfold laws_eqExtS.l0
      repeat' first
      |(with_reducible exact ih0 _ _ _)
      |(with_reducible exact LeO.refl _)
      |(with_reducible exact LeO.none _)
      |(with_reducible refine LeO.ite ?_ ?_)
      |(with_reducible refine LeO.bind ?_ (fun _=> ?_))
      |exact ih0 _ _ _
      |exact LeO.none _
      |refine LeO.ite ?_ ?_
      |refine LeO.bind ?_ (fun _=> ?_)
theorem laws_eqExtS.mono:∀ a0 a1 k,LeO (laws_eqExtS.f k a0 a1) (laws_eqExtS.f (k + 1) a0 a1):=by
  intro a0 a1 k
  have ih0:=laws_eqExtS.mono_l k
  unfold laws_eqExtS.f
  repeat' first
      |(with_reducible exact ih0 _ _ _)
      |(with_reducible exact LeO.refl _)
      |(with_reducible exact LeO.none _)
      |(with_reducible refine LeO.ite ?_ ?_)
      |(with_reducible refine LeO.bind ?_ (fun _=> ?_))
      |exact ih0 _ _ _
      |exact LeO.none _
      |refine LeO.ite ?_ ?_
      |refine LeO.bind ?_ (fun _=> ?_)
def laws_eqExtS.T6:Bool × List (List Nat × List Nat):=(true, [([], []),([], []),([0,1], [0,1]),([2], [2]),([], []),([], []),([4,5], [4,5]),([6], [6]),([3,7], [3,7]),([8], [8])])
def laws_eqExtS.B6:List Nat:= [0,0,3,7,0,0,48,112,255,511]
theorem laws_eqExtS.tab6:rtab .any (opsOf Try.f63 6)=laws_eqExtS.T6:=by kernel_rfl
theorem laws_eqExtS.bits6:waitsOk laws_eqExtS.T6.2 laws_eqExtS.B6=true:=by kernel_rfl
set_option maxHeartbeats 8000000 in
set_option maxRecDepth 100000 in
theorem laws_eqExtS.calls (k:Nat) (A0:Option Addr) (c0:Nat) (l0:List (S79)) (A1:Option Addr) (c1:Nat) (l1:List (S79)) (r:Bool) (w:World) (hr0:Kd.C k79 w A0 l0.length l0) (hc0:l0.length ≤ c0) (hr1:Kd.C k79 w A1 l1.length l1) (hc1:l1.length ≤ c1) (h:laws_eqExtS.f k l0 l1=some r):
    Calls Try.prog 63 #[.slice A0 l0.length c0,.slice A1 l1.length c1] w fun e w'=> e= .returned (.bool r) ∧ Below w.heap.size w w':=by
  have hu79:=Try.underlying79
  have HR0:=Aside0.mk hr0
  have HC0:=Aside0.mk hc0
  clear hr0 hc0
  have HR1:=Aside0.mk hr1
  have HC1:=Aside0.mk hc1
  clear hr1 hc1
  have HB:=Aside0.mk (Below.refl w.heap.size w)
  have H:(if (l0.length:Int)=(l1.length:Int) then (laws_eqExtS.l0 k l0 l1 0) else (some false))=some r:=h
  clear h
  by_cases c3:(l0.length:Int)=(l1.length:Int)
  · rw [if_pos c3] at H
    have c3b0:((l0.length:Int)==(l1.length:Int))=true:=beq_iff_eq.mpr c3
    have c3b1:((l0.length:Int) !=(l1.length:Int))=false:=bne_eq_false_iff_eq.mpr c3
    have c3b2:(l0.length==l1.length)=true:=by first|simpa using c3|(simp at c3 ⊢;omega)
    clear c3
    have H':=Aside0.mk H
    clear H
    go_enter Try.func63,Try.ntmps63
    go_wp2
    go_loopg [5] k (fun kq v5 w'=> ∃ (x5_1:Int),v5= .int .i64 x5_1 ∧ Aside0 (laws_eqExtS.l0 kq l0 l1 x5_1=some r) ∧ Aside0 (kq ≤ k) ∧ Aside0 (Below w.heap.size w w'))
    case atStart=> exact ⟨(0),(by first|rfl|(simp;done)|(simp [*];done)),H',⟨Nat.le_refl _⟩,⟨by repeat (first|(with_reducible first|exact HB.out|apply below_alloc|apply pw_below_drewN|apply below_drew1)|exact HB.out)⟩⟩
    case round=>
      clear H'
      try clear c1
      try clear p2
      try clear c3
      try clear c3b0
      try clear c3b1
      try clear c3b2
      obtain ⟨x5_1,rfl,HA,HK1,HB⟩:=hrel
      cases gk with
      |zero=> exact absurd HA.out (by simp [laws_eqExtS.l0])
      |succ k1=>
        have H:=HA.out
        clear HA
        simp only [laws_eqExtS.l0] at H
        by_cases c4:x5_1 < (l0.length:Int)
        · rw [if_pos c4] at H
          have c4b0:decide (x5_1 < (l0.length:Int))=true:=decide_eq_true c4
          clear c4
          by_cases c5:0 ≤ x5_1
          · rw [if_pos c5] at H
            have c5b0:decide (0 ≤ x5_1)=true:=decide_eq_true c5
            clear c5
            by_cases c6:x5_1 < (l1.length:Int)
            · rw [if_pos c6] at H
              have c6b0:decide (x5_1 < (l1.length:Int))=true:=decide_eq_true c6
              clear c6
              replace H:=Option.bind_eq_some_iff.mp H
              obtain ⟨t166,A70,H⟩:=H
              replace H:(if t166=true then (laws_eqExtS.l0 k1 l0 l1 (wrap64 (x5_1 + 1))) else (some false))=some r:=H
              have A7:=Aside0.mk A70
              clear A70
              by_cases c8:t166=true
              · subst c8
                have H1:(laws_eqExtS.l0 k1 l0 l1 (wrap64 (x5_1 + 1)))=some r:=by rw [if_pos rfl] at H;exact H
                clear H
                have H:=H1
                clear H1
                have H':=Aside0.mk H
                clear H
                try go_wp2
                have n0_:=Aside0.mk (below_drew1 HB.out)
                clear HB
                have HB:=n0_
                clear n0_
                have p164:0 ≤ (x5_1:Int):=of_decide_eq_true (by first|(with_reducible assumption)|assumption)
                have q164:x5_1 < (l0.length:Int):=of_decide_eq_true (by first|(with_reducible assumption)|assumption)
                obtain ⟨ad164,e164,hx164_0,hx164_1⟩:=at_T79 HR0.out x5_1 p164 q164
                have hw164_1:=hx164_1
                have hw164_0:=hx164_0
                cases e164
                replace hx164_0:=(HB.out.cell (World.block_lt_of_cell? w _ hx164_0)).trans hx164_0
                replace hx164_1:=(HB.out.cell (World.block_lt_of_cell? w _ hx164_1)).trans hx164_1
                replace p164:=eq_true p164
                replace q164:=eq_true q164
                have p165:0 ≤ (x5_1:Int):=of_decide_eq_true (by first|(with_reducible assumption)|assumption)
                have q165:x5_1 < (l1.length:Int):=of_decide_eq_true (by first|(with_reducible assumption)|assumption)
                obtain ⟨ad165,e165,hx165_0,hx165_1⟩:=at_T79 HR1.out x5_1 p165 q165
                have hw165_1:=hx165_1
                have hw165_0:=hx165_0
                cases e165
                replace hx165_0:=(HB.out.cell (World.block_lt_of_cell? w _ hx165_0)).trans hx165_0
                replace hx165_1:=(HB.out.cell (World.block_lt_of_cell? w _ hx165_1)).trans hx165_1
                replace p165:=eq_true p165
                replace q165:=eq_true q165
                refine start_ (n:=10) (S:=fun w'=> w'.cell? (ad164.add ((x5_1).toNat * 2))=some (.int .i64 ((rd_T79 l0 x5_1).f0)) ∧ w'.cell? ⟨(ad164.add ((x5_1).toNat * 2)).block,(ad164.add ((x5_1).toNat * 2)).off + 1,none⟩=some (.int .i64 ((rd_T79 l0 x5_1).f1)) ∧ w'.cell? (ad165.add ((x5_1).toNat * 2))=some (.int .i64 ((rd_T79 l1 x5_1).f0)) ∧ w'.cell? ⟨(ad165.add ((x5_1).toNat * 2)).block,(ad165.add ((x5_1).toNat * 2)).off + 1,none⟩=some (.int .i64 ((rd_T79 l1 x5_1).f1))) (ds:= []) #[false,false,false,false,false,false,false,false,false,false] (by kernel_rfl) rfl rfl ⟨((HB.out.cell (World.block_lt_of_cell? w _ hw164_0)).trans hw164_0),((HB.out.cell (World.block_lt_of_cell? w _ hw164_1)).trans hw164_1),((HB.out.cell (World.block_lt_of_cell? w _ hw165_0)).trans hw165_0),((HB.out.cell (World.block_lt_of_cell? w _ hw165_1)).trans hw165_1)⟩ (fun hHeld=> ?_);refine with_tabW laws_eqExtS.tab6 laws_eqExtS.bits6 (fun HT_ HW_=> ?_)
                generalize wr.drew=w9 at HB hx164_0 hx164_1 hx165_0 hx165_1 hHeld ⊢
                refine pure_ (i:=0) (N:=some 17) (v:=?_) (a':=?_) #[true,false,false,false,false,false,false,false,false,false] rfl rfl (any_of HT_.out (by kernel_rfl)) (fun _ _ _ h=> h) (Or.inl ⟨by rfl,?_⟩) ?_ ?_
                rotate_left
                · intro w'
                  go_simp
                  with_reducible rfl
                rotate_left
                · simp only [Act.put,List.setIfInBounds_toArray,List.set_cons_zero,List.set_cons_succ,i64_w,i32_w]
                  rfl
                refine pure_ (i:=1) (N:=some 18) (v:=?_) (a':=?_) #[true,true,false,false,false,false,false,false,false,false] rfl rfl (any_of HT_.out (by kernel_rfl)) (fun _ _ _ h=> h) (Or.inl ⟨by rfl,?_⟩) ?_ ?_
                rotate_left
                · intro w'
                  go_simp
                  with_reducible rfl
                rotate_left
                · simp only [Act.put,List.setIfInBounds_toArray,List.set_cons_zero,List.set_cons_succ,i64_w,i32_w]
                  rfl
                refine pure_ (i:=2) (N:=some 19) (v:=?_) (a':=?_) #[true,true,true,false,false,false,false,false,false,false] rfl rfl (any_of HT_.out (by kernel_rfl)) (fun _ _ _ h=> h) (Or.inl ⟨by rfl,?_⟩) ?_ ?_
                rotate_left
                · intro w'
                  go_simp
                  with_reducible rfl
                rotate_left
                · simp only [Act.put,List.setIfInBounds_toArray,List.set_cons_zero,List.set_cons_succ,i64_w,i32_w]
                  rfl
                refine pure_ (i:=4) (N:=some 21) (v:=?_) (a':=?_) #[true,true,true,false,true,false,false,false,false,false] rfl rfl (any_of HT_.out (by kernel_rfl)) (fun _ _ _ h=> h) (Or.inl ⟨by rfl,?_⟩) ?_ ?_
                rotate_left
                · intro w'
                  go_simp
                  with_reducible rfl
                rotate_left
                · simp only [Act.put,List.setIfInBounds_toArray,List.set_cons_zero,List.set_cons_succ,i64_w,i32_w]
                  rfl
                refine pure_ (i:=5) (N:=some 22) (v:=?_) (a':=?_) #[true,true,true,false,true,true,false,false,false,false] rfl rfl (any_of HT_.out (by kernel_rfl)) (fun _ _ _ h=> h) (Or.inl ⟨by rfl,?_⟩) ?_ ?_
                rotate_left
                · intro w'
                  go_simp
                  with_reducible rfl
                rotate_left
                · simp only [Act.put,List.setIfInBounds_toArray,List.set_cons_zero,List.set_cons_succ,i64_w,i32_w]
                  rfl
                refine pure_ (i:=6) (N:=some 23) (v:=?_) (a':=?_) #[true,true,true,false,true,true,true,false,false,false] rfl rfl (any_of HT_.out (by kernel_rfl)) (fun _ _ _ h=> h) (Or.inl ⟨by rfl,?_⟩) ?_ ?_
                rotate_left
                · intro w'
                  go_simp
                  with_reducible rfl
                rotate_left
                · simp only [Act.put,List.setIfInBounds_toArray,List.set_cons_zero,List.set_cons_succ,i64_w,i32_w]
                  rfl
                refine take_ (i:=3) (N:=some 20) (v:=?_) (a':=?_) #[true,true,true,true,true,true,true,false,false,false] rfl rfl (take_ofW HT_.out HW_.out (by kernel_rfl)) (fun _ _ _ h=> h) (Or.inl ⟨by rfl,?_⟩) hHeld ?_ ?_
                rotate_left
                · rintro w' ⟨s0,s1,s2,s3⟩
                  go_simp
                  with_reducible rfl
                rotate_left
                · simp only [Act.put,List.setIfInBounds_toArray,List.set_cons_zero,List.set_cons_succ,i64_w,i32_w]
                  rfl
                refine take_ (i:=7) (N:=some 24) (v:=?_) (a':=?_) #[true,true,true,true,true,true,true,true,false,false] rfl rfl (take_ofW HT_.out HW_.out (by kernel_rfl)) (fun _ _ _ h=> h) (Or.inl ⟨by rfl,?_⟩) hHeld ?_ ?_
                rotate_left
                · rintro w' ⟨s0,s1,s2,s3⟩
                  go_simp
                  with_reducible rfl
                rotate_left
                · simp only [Act.put,List.setIfInBounds_toArray,List.set_cons_zero,List.set_cons_succ,i64_w,i32_w]
                  rfl
                refine one_ (i:=8) (N:=some 25) #[true,true,true,true,true,true,true,true,true,false] rfl rfl (one_of HT_.out (by kernel_rfl)) (by decide) (fun K hK=> ?_)
                refine goes_ Try.func71 (by kernel_rfl) rfl #[.agg #[.int .i64 ((rd_T79 l0 x5_1).f0),.int .i64 ((rd_T79 l0 x5_1).f1)],.agg #[.int .i64 ((rd_T79 l1 x5_1).f0),.int .i64 ((rd_T79 l1 x5_1).f1)]] (by rfl) rfl rfl (by (try simp only [List.map_toArray,List.map_cons,List.map_nil]);first|done|rfl|(simp only [List.length_drop,List.length_take];rfl)) ?_
                with_reducible refine (laws_eqExt.calls ((rd_T79 l0 x5_1).f0) ((rd_T79 l0 x5_1).f1) ((rd_T79 l1 x5_1).f0) ((rd_T79 l1 x5_1).f1) true _ A7.out).mono ?_
                rintro e w10 ⟨rfl,hb⟩
                refine ⟨_,rfl,?_⟩
                have n0_:=Aside0.mk (below_step (by repeat (first|(with_reducible first|exact HB.out|apply below_alloc|apply pw_below_drewN|apply below_drew1)|exact HB.out)) hb)
                clear HB
                have HB:=n0_
                clear n0_
                (try clear hb)
                (try clear hb2)
                (try clear hk)
                (try clear hi)
                refine hK.out _ _ ⟨((HB.out.cell (World.block_lt_of_cell? w _ hw164_0)).trans hw164_0),((HB.out.cell (World.block_lt_of_cell? w _ hw164_1)).trans hw164_1),((HB.out.cell (World.block_lt_of_cell? w _ hw165_0)).trans hw165_0),((HB.out.cell (World.block_lt_of_cell? w _ hw165_1)).trans hw165_1)⟩ (fun hHeld=> ?_)
                clear hK K
                refine norm_ (a':=?_) ?_ ?_
                rotate_left
                · show Act.put _ (some 25) _=_
                  simp only [Act.put,List.setIfInBounds_toArray,List.set_cons_zero,List.set_cons_succ,i64_w,i32_w]
                  rfl
                refine pure_ (i:=9) (N:=some 26) (v:=?_) (a':=?_) #[true,true,true,true,true,true,true,true,true,true] rfl rfl (any_of HT_.out (by kernel_rfl)) (fun _ _ _ h=> h) (Or.inl ⟨by rfl,?_⟩) ?_ ?_
                rotate_left
                · intro w'
                  go_simp
                  with_reducible rfl
                rotate_left
                · simp only [Act.put,List.setIfInBounds_toArray,List.set_cons_zero,List.set_cons_succ,i64_w,i32_w]
                  rfl
                refine done_ (done_of HT_.out (by kernel_rfl)) ?_
                try go_wp2
                go_roundg k1
                case measure=> have:=HK1.out;omega
                case rel=> exact ⟨(wrap64 (x5_1 + 1)),(by first|rfl|(simp;done)|(simp [*];done)),H',⟨by have:=HK1.out;omega⟩,⟨by repeat (first|(with_reducible first|exact HB.out|apply below_alloc|apply pw_below_drewN|apply below_drew1)|exact HB.out)⟩⟩
              · replace c8:=Bool.eq_false_iff.mpr c8
                subst c8
                have H1:(some false)=some r:=by rw [if_neg (show ¬ (false=true) by decide)] at H;exact H
                clear H
                have H:=H1
                clear H1
                obtain rfl:=Option.some.inj H
                try go_wp2
                have n0_:=Aside0.mk (below_drew1 HB.out)
                clear HB
                have HB:=n0_
                clear n0_
                have p164:0 ≤ (x5_1:Int):=of_decide_eq_true (by first|(with_reducible assumption)|assumption)
                have q164:x5_1 < (l0.length:Int):=of_decide_eq_true (by first|(with_reducible assumption)|assumption)
                obtain ⟨ad164,e164,hx164_0,hx164_1⟩:=at_T79 HR0.out x5_1 p164 q164
                have hw164_1:=hx164_1
                have hw164_0:=hx164_0
                cases e164
                replace hx164_0:=(HB.out.cell (World.block_lt_of_cell? w _ hx164_0)).trans hx164_0
                replace hx164_1:=(HB.out.cell (World.block_lt_of_cell? w _ hx164_1)).trans hx164_1
                replace p164:=eq_true p164
                replace q164:=eq_true q164
                have p165:0 ≤ (x5_1:Int):=of_decide_eq_true (by first|(with_reducible assumption)|assumption)
                have q165:x5_1 < (l1.length:Int):=of_decide_eq_true (by first|(with_reducible assumption)|assumption)
                obtain ⟨ad165,e165,hx165_0,hx165_1⟩:=at_T79 HR1.out x5_1 p165 q165
                have hw165_1:=hx165_1
                have hw165_0:=hx165_0
                cases e165
                replace hx165_0:=(HB.out.cell (World.block_lt_of_cell? w _ hx165_0)).trans hx165_0
                replace hx165_1:=(HB.out.cell (World.block_lt_of_cell? w _ hx165_1)).trans hx165_1
                replace p165:=eq_true p165
                replace q165:=eq_true q165
                refine start_ (n:=10) (S:=fun w'=> w'.cell? (ad164.add ((x5_1).toNat * 2))=some (.int .i64 ((rd_T79 l0 x5_1).f0)) ∧ w'.cell? ⟨(ad164.add ((x5_1).toNat * 2)).block,(ad164.add ((x5_1).toNat * 2)).off + 1,none⟩=some (.int .i64 ((rd_T79 l0 x5_1).f1)) ∧ w'.cell? (ad165.add ((x5_1).toNat * 2))=some (.int .i64 ((rd_T79 l1 x5_1).f0)) ∧ w'.cell? ⟨(ad165.add ((x5_1).toNat * 2)).block,(ad165.add ((x5_1).toNat * 2)).off + 1,none⟩=some (.int .i64 ((rd_T79 l1 x5_1).f1))) (ds:= []) #[false,false,false,false,false,false,false,false,false,false] (by kernel_rfl) rfl rfl ⟨((HB.out.cell (World.block_lt_of_cell? w _ hw164_0)).trans hw164_0),((HB.out.cell (World.block_lt_of_cell? w _ hw164_1)).trans hw164_1),((HB.out.cell (World.block_lt_of_cell? w _ hw165_0)).trans hw165_0),((HB.out.cell (World.block_lt_of_cell? w _ hw165_1)).trans hw165_1)⟩ (fun hHeld=> ?_);refine with_tabW laws_eqExtS.tab6 laws_eqExtS.bits6 (fun HT_ HW_=> ?_)
                generalize wr.drew=w11 at HB hx164_0 hx164_1 hx165_0 hx165_1 hHeld ⊢
                refine pure_ (i:=0) (N:=some 17) (v:=?_) (a':=?_) #[true,false,false,false,false,false,false,false,false,false] rfl rfl (any_of HT_.out (by kernel_rfl)) (fun _ _ _ h=> h) (Or.inl ⟨by rfl,?_⟩) ?_ ?_
                rotate_left
                · intro w'
                  go_simp
                  with_reducible rfl
                rotate_left
                · simp only [Act.put,List.setIfInBounds_toArray,List.set_cons_zero,List.set_cons_succ,i64_w,i32_w]
                  rfl
                refine pure_ (i:=1) (N:=some 18) (v:=?_) (a':=?_) #[true,true,false,false,false,false,false,false,false,false] rfl rfl (any_of HT_.out (by kernel_rfl)) (fun _ _ _ h=> h) (Or.inl ⟨by rfl,?_⟩) ?_ ?_
                rotate_left
                · intro w'
                  go_simp
                  with_reducible rfl
                rotate_left
                · simp only [Act.put,List.setIfInBounds_toArray,List.set_cons_zero,List.set_cons_succ,i64_w,i32_w]
                  rfl
                refine pure_ (i:=2) (N:=some 19) (v:=?_) (a':=?_) #[true,true,true,false,false,false,false,false,false,false] rfl rfl (any_of HT_.out (by kernel_rfl)) (fun _ _ _ h=> h) (Or.inl ⟨by rfl,?_⟩) ?_ ?_
                rotate_left
                · intro w'
                  go_simp
                  with_reducible rfl
                rotate_left
                · simp only [Act.put,List.setIfInBounds_toArray,List.set_cons_zero,List.set_cons_succ,i64_w,i32_w]
                  rfl
                refine pure_ (i:=4) (N:=some 21) (v:=?_) (a':=?_) #[true,true,true,false,true,false,false,false,false,false] rfl rfl (any_of HT_.out (by kernel_rfl)) (fun _ _ _ h=> h) (Or.inl ⟨by rfl,?_⟩) ?_ ?_
                rotate_left
                · intro w'
                  go_simp
                  with_reducible rfl
                rotate_left
                · simp only [Act.put,List.setIfInBounds_toArray,List.set_cons_zero,List.set_cons_succ,i64_w,i32_w]
                  rfl
                refine pure_ (i:=5) (N:=some 22) (v:=?_) (a':=?_) #[true,true,true,false,true,true,false,false,false,false] rfl rfl (any_of HT_.out (by kernel_rfl)) (fun _ _ _ h=> h) (Or.inl ⟨by rfl,?_⟩) ?_ ?_
                rotate_left
                · intro w'
                  go_simp
                  with_reducible rfl
                rotate_left
                · simp only [Act.put,List.setIfInBounds_toArray,List.set_cons_zero,List.set_cons_succ,i64_w,i32_w]
                  rfl
                refine pure_ (i:=6) (N:=some 23) (v:=?_) (a':=?_) #[true,true,true,false,true,true,true,false,false,false] rfl rfl (any_of HT_.out (by kernel_rfl)) (fun _ _ _ h=> h) (Or.inl ⟨by rfl,?_⟩) ?_ ?_
                rotate_left
                · intro w'
                  go_simp
                  with_reducible rfl
                rotate_left
                · simp only [Act.put,List.setIfInBounds_toArray,List.set_cons_zero,List.set_cons_succ,i64_w,i32_w]
                  rfl
                refine take_ (i:=3) (N:=some 20) (v:=?_) (a':=?_) #[true,true,true,true,true,true,true,false,false,false] rfl rfl (take_ofW HT_.out HW_.out (by kernel_rfl)) (fun _ _ _ h=> h) (Or.inl ⟨by rfl,?_⟩) hHeld ?_ ?_
                rotate_left
                · rintro w' ⟨s0,s1,s2,s3⟩
                  go_simp
                  with_reducible rfl
                rotate_left
                · simp only [Act.put,List.setIfInBounds_toArray,List.set_cons_zero,List.set_cons_succ,i64_w,i32_w]
                  rfl
                refine take_ (i:=7) (N:=some 24) (v:=?_) (a':=?_) #[true,true,true,true,true,true,true,true,false,false] rfl rfl (take_ofW HT_.out HW_.out (by kernel_rfl)) (fun _ _ _ h=> h) (Or.inl ⟨by rfl,?_⟩) hHeld ?_ ?_
                rotate_left
                · rintro w' ⟨s0,s1,s2,s3⟩
                  go_simp
                  with_reducible rfl
                rotate_left
                · simp only [Act.put,List.setIfInBounds_toArray,List.set_cons_zero,List.set_cons_succ,i64_w,i32_w]
                  rfl
                refine one_ (i:=8) (N:=some 25) #[true,true,true,true,true,true,true,true,true,false] rfl rfl (one_of HT_.out (by kernel_rfl)) (by decide) (fun K hK=> ?_)
                refine goes_ Try.func71 (by kernel_rfl) rfl #[.agg #[.int .i64 ((rd_T79 l0 x5_1).f0),.int .i64 ((rd_T79 l0 x5_1).f1)],.agg #[.int .i64 ((rd_T79 l1 x5_1).f0),.int .i64 ((rd_T79 l1 x5_1).f1)]] (by rfl) rfl rfl (by (try simp only [List.map_toArray,List.map_cons,List.map_nil]);first|done|rfl|(simp only [List.length_drop,List.length_take];rfl)) ?_
                with_reducible refine (laws_eqExt.calls ((rd_T79 l0 x5_1).f0) ((rd_T79 l0 x5_1).f1) ((rd_T79 l1 x5_1).f0) ((rd_T79 l1 x5_1).f1) false _ A7.out).mono ?_
                rintro e w12 ⟨rfl,hb⟩
                refine ⟨_,rfl,?_⟩
                have n0_:=Aside0.mk (below_step (by repeat (first|(with_reducible first|exact HB.out|apply below_alloc|apply pw_below_drewN|apply below_drew1)|exact HB.out)) hb)
                clear HB
                have HB:=n0_
                clear n0_
                (try clear hb)
                (try clear hb2)
                (try clear hk)
                (try clear hi)
                refine hK.out _ _ ⟨((HB.out.cell (World.block_lt_of_cell? w _ hw164_0)).trans hw164_0),((HB.out.cell (World.block_lt_of_cell? w _ hw164_1)).trans hw164_1),((HB.out.cell (World.block_lt_of_cell? w _ hw165_0)).trans hw165_0),((HB.out.cell (World.block_lt_of_cell? w _ hw165_1)).trans hw165_1)⟩ (fun hHeld=> ?_)
                clear hK K
                refine norm_ (a':=?_) ?_ ?_
                rotate_left
                · show Act.put _ (some 25) _=_
                  simp only [Act.put,List.setIfInBounds_toArray,List.set_cons_zero,List.set_cons_succ,i64_w,i32_w]
                  rfl
                refine pure_ (i:=9) (N:=some 26) (v:=?_) (a':=?_) #[true,true,true,true,true,true,true,true,true,true] rfl rfl (any_of HT_.out (by kernel_rfl)) (fun _ _ _ h=> h) (Or.inl ⟨by rfl,?_⟩) ?_ ?_
                rotate_left
                · intro w'
                  go_simp
                  with_reducible rfl
                rotate_left
                · simp only [Act.put,List.setIfInBounds_toArray,List.set_cons_zero,List.set_cons_succ,i64_w,i32_w]
                  rfl
                refine done_ (done_of HT_.out (by kernel_rfl)) ?_
                try go_wp2
                go_ret
                exact ⟨by first|rfl|(simp [errW_none,errW_some] <;> rfl)|(simp [*,errW_none,errW_some] <;> rfl),by repeat (first|(with_reducible first|exact HB.out|apply below_alloc|apply pw_below_drewN|apply below_drew1)|exact HB.out)⟩
            · rw [if_neg c6] at H
              exact absurd H (by simp)
          · rw [if_neg c5] at H
            exact absurd H (by simp)
        · rw [if_neg c4] at H
          have c4b0:decide (x5_1 < (l0.length:Int))=false:=decide_eq_false c4
          clear c4
          obtain rfl:=Option.some.inj H
          go_wp2
          go_ret
          exact ⟨by first|rfl|(simp [errW_none,errW_some] <;> rfl)|(simp [*,errW_none,errW_some] <;> rfl),by repeat (first|(with_reducible first|exact HB.out|apply below_alloc|apply pw_below_drewN|apply below_drew1)|exact HB.out)⟩
  · rw [if_neg c3] at H
    have c3b0:((l0.length:Int)==(l1.length:Int))=false:=beq_eq_false_iff_ne.mpr c3
    have c3b1:((l0.length:Int) !=(l1.length:Int))=true:=bne_iff_ne.mpr c3
    have c3b2:(l0.length==l1.length)=false:=by first|simpa using c3|(simp at c3 ⊢;omega)
    obtain rfl:=Option.some.inj H
    go_enter Try.func63,Try.ntmps63
    go_wp2
    go_ret
    exact ⟨by first|rfl|(simp [errW_none,errW_some] <;> rfl)|(simp [*,errW_none,errW_some] <;> rfl),by repeat (first|(with_reducible first|exact HB.out|apply below_alloc|apply pw_below_drewN|apply below_drew1)|exact HB.out)⟩
end Go.Proofs.Ytlogocmojnhpbaa.Print
