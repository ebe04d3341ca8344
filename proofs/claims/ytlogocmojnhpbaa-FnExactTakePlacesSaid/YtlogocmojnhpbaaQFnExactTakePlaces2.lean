-- Packed by a program of this session (slim.py) out of printed texts; not trusted, Lean checks it.
import Derived.Test.YtlogocmojnhpbaaP0
import Derived.Test.YtlogocmojnhpbaaQFnExactTakePlaces0
import Derived.Test.YtlogocmojnhpbaaQFnExactTakePlaces1
namespace Go.Proofs.Ytlogocmojnhpbaa.Print
open Go.RowKit Go.Proofs.YtlogocmojnhpbaaW.PrintWords Go.Proofs.YtlogocmojnhpbaaW.PrintLast Go.Proofs.YtlogocmojnhpbaaW.PrintMore
attribute [local go_sem] max2_int min2_int max_two min_two max_three min_three max_four min_four
set_option linter.unusedVariables false
set_option linter.unusedSimpArgs false
def impl_TakePlaces.f (k:Nat) (l0_0:List (S79)) (a0_1:Int) (a0_2:ByteArray) (a0_3:Int) (a1:Int) (a2:Int):Option ((List (S79)) × Int × ByteArray × Int × List Int × Int):=(impl_SourceOK.f l0_0 a0_1 a0_2 a0_3).bind fun t957=> (if t957=true then ((impl_in.f a1 0 100).bind fun t958=> (if t958=true then ((impl_in.f a2 1 65536).bind fun t959=> (if t959=true then ((impl_TakeSome.f l0_0 a0_1 a0_2 a0_3 a1).bind fun bt960=> (if bt960.2.2.2.2.2=0 then ((impl_places.f k bt960.2.2.2.2.1 a2).bind fun t971=> (some (bt960.1,bt960.2.1,bt960.2.2.1,bt960.2.2.2.1,t971,0))) else (some (bt960.1,bt960.2.1,bt960.2.2.1,bt960.2.2.2.1,([]:List Int),bt960.2.2.2.2.2)))) else (some (([]:List (S79)),0,(⟨#[]⟩:ByteArray),0,([]:List Int),4)))) else (some (([]:List (S79)),0,(⟨#[]⟩:ByteArray),0,([]:List Int),4)))) else (some (([]:List (S79)),0,(⟨#[]⟩:ByteArray),0,([]:List Int),1)))
theorem impl_TakePlaces.mono:∀ a0 a1 a2 a3 a4 a5 k,LeO (impl_TakePlaces.f k a0 a1 a2 a3 a4 a5) (impl_TakePlaces.f (k + 1) a0 a1 a2 a3 a4 a5):=by
  intro a0 a1 a2 a3 a4 a5 k
  unfold impl_TakePlaces.f
  repeat' first
      |(with_reducible exact impl_places.mono _ _ _)
      |(with_reducible exact LeO.refl _)
      |(with_reducible exact LeO.none _)
      |(with_reducible refine LeO.ite ?_ ?_)
      |(with_reducible refine LeO.bind ?_ (fun _=> ?_))
      |exact impl_places.mono _ _ _
      |exact LeO.none _
      |refine LeO.ite ?_ ?_
      |refine LeO.bind ?_ (fun _=> ?_)
set_option maxHeartbeats 8000000 in
set_option maxRecDepth 100000 in
theorem impl_TakePlaces.calls (k:Nat) (A0_0:Option Addr) (c0_0:Nat) (l0_0:List (S79)) (a0_1:Int) (a0_2:ByteArray) (a0_3:Int) (a1:Int) (a2:Int) (r1:List (S79)) (r2:Int) (r3:ByteArray) (r4:Int) (r5:List Int) (r6:Int) (w:World) (hr0_0:Kd.C k79 w A0_0 l0_0.length l0_0) (hc0_0:l0_0.length ≤ c0_0) (h:impl_TakePlaces.f k l0_0 a0_1 a0_2 a0_3 a1 a2=some (r1,r2,r3,r4,r5,r6)):
    Calls Try.prog 76 #[.agg #[.slice A0_0 l0_0.length c0_0,.int .i64 a0_1,.string a0_2,.int .i64 a0_3],.int .i64 a1,.int .i64 a2] w fun e w'=> ∃ v0_ v4_:Value,e= .returned (.tuple #[.agg #[v0_,.int .i64 r2,.string r3,.int .i64 r4],v4_,.int .i64 r6]) ∧ Kd.R k79 79 w' w.heap.size (fun _=> True) v0_ r1 ∧ Kd.R (Kd.int .i64) 3 w' w.heap.size (fun _=> True) v4_ r5 ∧ Below w.heap.size w w':=by
  have hu36:=Try.underlying36
  have HR0_0:=Aside0.mk hr0_0
  have HC0_0:=Aside0.mk hc0_0
  clear hr0_0 hc0_0
  have HB:=Aside0.mk (Below.refl w.heap.size w)
  have H:((impl_SourceOK.f l0_0 a0_1 a0_2 a0_3).bind fun t957=> (if t957=true then ((impl_in.f a1 0 100).bind fun t958=> (if t958=true then ((impl_in.f a2 1 65536).bind fun t959=> (if t959=true then ((impl_TakeSome.f l0_0 a0_1 a0_2 a0_3 a1).bind fun bt960=> (if bt960.2.2.2.2.2=0 then ((impl_places.f k bt960.2.2.2.2.1 a2).bind fun t971=> (some (bt960.1,bt960.2.1,bt960.2.2.1,bt960.2.2.2.1,t971,0))) else (some (bt960.1,bt960.2.1,bt960.2.2.1,bt960.2.2.2.1,([]:List Int),bt960.2.2.2.2.2)))) else (some (([]:List (S79)),0,(⟨#[]⟩:ByteArray),0,([]:List Int),4)))) else (some (([]:List (S79)),0,(⟨#[]⟩:ByteArray),0,([]:List Int),4)))) else (some (([]:List (S79)),0,(⟨#[]⟩:ByteArray),0,([]:List Int),1))))=some (r1,r2,r3,r4,r5,r6):=h
  clear h
  replace H:=Option.bind_eq_some_iff.mp H
  obtain ⟨t957,A40,H⟩:=H
  replace H:(if t957=true then ((impl_in.f a1 0 100).bind fun t958=> (if t958=true then ((impl_in.f a2 1 65536).bind fun t959=> (if t959=true then ((impl_TakeSome.f l0_0 a0_1 a0_2 a0_3 a1).bind fun bt960=> (if bt960.2.2.2.2.2=0 then ((impl_places.f k bt960.2.2.2.2.1 a2).bind fun t971=> (some (bt960.1,bt960.2.1,bt960.2.2.1,bt960.2.2.2.1,t971,0))) else (some (bt960.1,bt960.2.1,bt960.2.2.1,bt960.2.2.2.1,([]:List Int),bt960.2.2.2.2.2)))) else (some (([]:List (S79)),0,(⟨#[]⟩:ByteArray),0,([]:List Int),4)))) else (some (([]:List (S79)),0,(⟨#[]⟩:ByteArray),0,([]:List Int),4)))) else (some (([]:List (S79)),0,(⟨#[]⟩:ByteArray),0,([]:List Int),1)))=some (r1,r2,r3,r4,r5,r6):=H
  have A4:=Aside0.mk A40
  clear A40
  by_cases c5:t957=true
  · subst c5
    have H1:((impl_in.f a1 0 100).bind fun t958=> (if t958=true then ((impl_in.f a2 1 65536).bind fun t959=> (if t959=true then ((impl_TakeSome.f l0_0 a0_1 a0_2 a0_3 a1).bind fun bt960=> (if bt960.2.2.2.2.2=0 then ((impl_places.f k bt960.2.2.2.2.1 a2).bind fun t971=> (some (bt960.1,bt960.2.1,bt960.2.2.1,bt960.2.2.2.1,t971,0))) else (some (bt960.1,bt960.2.1,bt960.2.2.1,bt960.2.2.2.1,([]:List Int),bt960.2.2.2.2.2)))) else (some (([]:List (S79)),0,(⟨#[]⟩:ByteArray),0,([]:List Int),4)))) else (some (([]:List (S79)),0,(⟨#[]⟩:ByteArray),0,([]:List Int),4))))=some (r1,r2,r3,r4,r5,r6):=by rw [if_pos rfl] at H;exact H
    clear H
    have H:=H1
    clear H1
    replace H:=Option.bind_eq_some_iff.mp H
    obtain ⟨t958,A60,H⟩:=H
    replace H:(if t958=true then ((impl_in.f a2 1 65536).bind fun t959=> (if t959=true then ((impl_TakeSome.f l0_0 a0_1 a0_2 a0_3 a1).bind fun bt960=> (if bt960.2.2.2.2.2=0 then ((impl_places.f k bt960.2.2.2.2.1 a2).bind fun t971=> (some (bt960.1,bt960.2.1,bt960.2.2.1,bt960.2.2.2.1,t971,0))) else (some (bt960.1,bt960.2.1,bt960.2.2.1,bt960.2.2.2.1,([]:List Int),bt960.2.2.2.2.2)))) else (some (([]:List (S79)),0,(⟨#[]⟩:ByteArray),0,([]:List Int),4)))) else (some (([]:List (S79)),0,(⟨#[]⟩:ByteArray),0,([]:List Int),4)))=some (r1,r2,r3,r4,r5,r6):=H
    have A6:=Aside0.mk A60
    clear A60
    by_cases c7:t958=true
    · subst c7
      have H1:((impl_in.f a2 1 65536).bind fun t959=> (if t959=true then ((impl_TakeSome.f l0_0 a0_1 a0_2 a0_3 a1).bind fun bt960=> (if bt960.2.2.2.2.2=0 then ((impl_places.f k bt960.2.2.2.2.1 a2).bind fun t971=> (some (bt960.1,bt960.2.1,bt960.2.2.1,bt960.2.2.2.1,t971,0))) else (some (bt960.1,bt960.2.1,bt960.2.2.1,bt960.2.2.2.1,([]:List Int),bt960.2.2.2.2.2)))) else (some (([]:List (S79)),0,(⟨#[]⟩:ByteArray),0,([]:List Int),4))))=some (r1,r2,r3,r4,r5,r6):=by rw [if_pos rfl] at H;exact H
      clear H
      have H:=H1
      clear H1
      replace H:=Option.bind_eq_some_iff.mp H
      obtain ⟨t959,A80,H⟩:=H
      replace H:(if t959=true then ((impl_TakeSome.f l0_0 a0_1 a0_2 a0_3 a1).bind fun bt960=> (if bt960.2.2.2.2.2=0 then ((impl_places.f k bt960.2.2.2.2.1 a2).bind fun t971=> (some (bt960.1,bt960.2.1,bt960.2.2.1,bt960.2.2.2.1,t971,0))) else (some (bt960.1,bt960.2.1,bt960.2.2.1,bt960.2.2.2.1,([]:List Int),bt960.2.2.2.2.2)))) else (some (([]:List (S79)),0,(⟨#[]⟩:ByteArray),0,([]:List Int),4)))=some (r1,r2,r3,r4,r5,r6):=H
      have A8:=Aside0.mk A80
      clear A80
      by_cases c9:t959=true
      · subst c9
        have H1:((impl_TakeSome.f l0_0 a0_1 a0_2 a0_3 a1).bind fun bt960=> (if bt960.2.2.2.2.2=0 then ((impl_places.f k bt960.2.2.2.2.1 a2).bind fun t971=> (some (bt960.1,bt960.2.1,bt960.2.2.1,bt960.2.2.2.1,t971,0))) else (some (bt960.1,bt960.2.1,bt960.2.2.1,bt960.2.2.2.1,([]:List Int),bt960.2.2.2.2.2))))=some (r1,r2,r3,r4,r5,r6):=by rw [if_pos rfl] at H;exact H
        clear H
        have H:=H1
        clear H1
        replace H:=Option.bind_eq_some_iff.mp H
        obtain ⟨⟨t960,t963,t964,t965,t966,t969⟩,A100,H⟩:=H
        replace H:(if t969=0 then ((impl_places.f k t966 a2).bind fun t971=> (some (t960,t963,t964,t965,t971,0))) else (some (t960,t963,t964,t965,([]:List Int),t969)))=some (r1,r2,r3,r4,r5,r6):=H
        have A10:=Aside0.mk A100
        clear A100
        by_cases c11:t969=0
        · rw [if_pos c11] at H
          have c11b0:(t969==0)=true:=beq_iff_eq.mpr c11
          have c11b1:(t969 !=0)=false:=bne_eq_false_iff_eq.mpr c11
          clear c11
          replace H:=Option.bind_eq_some_iff.mp H
          obtain ⟨t971,A120,H⟩:=H
          replace H:(some (t960,t963,t964,t965,t971,0))=some (r1,r2,r3,r4,r5,r6):=H
          have A12:=Aside0.mk A120
          clear A120
          simp only [Option.some.injEq,Prod.mk.injEq] at H
          obtain ⟨rfl,rfl,rfl,rfl,rfl,rfl⟩:=H
          go_enter Try.func76,Try.ntmps76
          try go_wp2_with (first|((with_reducible refine gate_dst (N:=3) rfl ?_);refine box_event ?hg (N:=3) ?hd (cs:= #[.slice A0_0 l0_0.length c0_0,.int .i64 a0_1,.string a0_2,.int .i64 a0_3]) (t:=36) ?hr ?_;(case hd=> rfl);(case hg=> rfl);(case hr=> first|(go_simp;done)|(go_simp;rfl));intro gb955 hg w13 hbox hb;have n0_:=Aside0.mk (below_step (by repeat (first|(with_reducible first|exact HB.out|apply bwA|apply bwN|apply bwD)|exact HB.out)) hb);have n1_:=Aside0.mk (hbox);have n2_:=Aside0.mk ((by rw [hg];exact (below_size (by repeat (first|(with_reducible first|exact HB.out|apply bwA|apply bwN|apply bwD)|exact HB.out))):w.heap.size ≤ gb955));have n3_:=Aside0.mk ((by rw [hg];exact (below_size (by repeat (first|(with_reducible first|exact HB.out|apply bwA|apply bwN|apply bwD)|exact HB.out))):w.heap.size ≤ gb955));clear HB;have HB:=n0_;have BK955:=n1_;have GW955:=n2_;have GE955:=n3_;clear n0_ n1_ n2_ n3_;clear hb hbox hg)|((with_reducible refine gate_dst (N:=6) rfl ?_);refine box_event ?hg (N:=6) ?hd (cs:= #[.slice none 0 0,.int .i64 0,.string (⟨#[]⟩:ByteArray),.int .i64 0]) (t:=36) ?hr ?_;(case hd=> rfl);(case hg=> rfl);(case hr=> first|(go_simp;done)|(go_simp;rfl));intro gb956 hg w14 hbox hb;have n0_:=Aside0.mk (blk_below (g:=gb955) (o:= .cells #[.slice A0_0 l0_0.length c0_0,.int .i64 a0_1,.string a0_2,.int .i64 a0_3] 36 (0,0)) (by (with_reducible repeat (first|apply bN|apply bd|apply bA));exact BK955.out) hb);have n1_:=Aside0.mk (below_step (by repeat (first|(with_reducible first|exact HB.out|apply bwA|apply bwN|apply bwD|refine bwS ?_ GE955.out)|exact HB.out)) hb);have n2_:=Aside0.mk (hbox);have n3_:=Aside0.mk ((by rw [hg];exact (below_size (by repeat (first|(with_reducible first|exact HB.out|apply bwA|apply bwN|apply bwD|refine bwS ?_ GE955.out)|exact HB.out))):w.heap.size ≤ gb956));have n4_:=Aside0.mk ((by rw [hg];exact (below_size (by repeat (first|(with_reducible first|exact HB.out|apply bwA|apply bwN|apply bwD|refine bwS ?_ GE955.out)|exact HB.out))):w.heap.size ≤ gb956));have n5_:=Aside0.mk ((by rw [hg];exact Nat.ne_of_lt (blk_lt (g:=gb955) (o:= .cells #[.slice A0_0 l0_0.length c0_0,.int .i64 a0_1,.string a0_2,.int .i64 a0_3] 36 (0,0)) (by (with_reducible repeat (first|apply bN|apply bd|apply bA));exact BK955.out)):gb955 ≠ gb956));have n6_:=Aside0.mk ((by rw [hg];exact Nat.ne_of_gt (blk_lt (g:=gb955) (o:= .cells #[.slice A0_0 l0_0.length c0_0,.int .i64 a0_1,.string a0_2,.int .i64 a0_3] 36 (0,0)) (by (with_reducible repeat (first|apply bN|apply bd|apply bA));exact BK955.out)):gb956 ≠ gb955));clear BK955;clear HB;have BK955:=n0_;have HB:=n1_;have BK956:=n2_;have GW956:=n3_;have GE956:=n4_;have NB955_956:=n5_;have NB956_955:=n6_;clear n0_ n1_ n2_ n3_ n4_ n5_ n6_;clear hb hbox hg;have hnb15:=NB955_956.out;have hnc15:=NB956_955.out;have hcz16_0:w14.cell? ⟨gb955,0,none⟩=some (.slice A0_0 l0_0.length c0_0):=(blk_cell BK955.out 0).trans rfl;have hcz16_1:w14.cell? ⟨gb955,1,none⟩=some (.int .i64 a0_1):=(blk_cell BK955.out 1).trans rfl;have hcz16_2:w14.cell? ⟨gb955,2,none⟩=some (.string a0_2):=(blk_cell BK955.out 2).trans rfl;have hcz16_3:w14.cell? ⟨gb955,3,none⟩=some (.int .i64 a0_3):=(blk_cell BK955.out 3).trans rfl;have hfz16_0:=blk_frozen BK955.out 0;have hfz16_1:=blk_frozen BK955.out 1;have hfz16_2:=blk_frozen BK955.out 2;have hfz16_3:=blk_frozen BK955.out 3)|((with_reducible refine gate_callee (f:=116) rfl ?_);refine goesL_ (some 14) rfl rfl Try.func116 (by kernel_rfl) rfl #[.agg #[.slice A0_0 l0_0.length c0_0,.int .i64 a0_1,.string a0_2,.int .i64 a0_3]] rfl (by (try simp only [List.map_toArray,List.map_cons,List.map_nil]);first|done|rfl|(simp only [List.length_drop,List.length_take];rfl)) ?_;(with_reducible refine (impl_SourceOK.calls _ _ l0_0 a0_1 a0_2 a0_3 true _ ?side1 ?side2 A4.out).mono ?_);(case side1=> repeat (first|exact (Kd.C_below HR0_0.out HB.out)|(with_reducible refine Kd.C_alloc ?_ _)|(with_reducible refine Kd.C_drewN ?_ _)|(with_reducible refine Kd.C_drew ?_)));(case side2=> exact HC0_0.out);rintro e w17 ⟨rfl,hb⟩;refine ⟨_,rfl,?_⟩;have n0_:=Aside0.mk (blk_below (g:=gb955) (o:= .cells #[.slice A0_0 l0_0.length c0_0,.int .i64 a0_1,.string a0_2,.int .i64 a0_3] 36 (0,0)) (by (with_reducible repeat (first|apply bN|apply bd|apply bA));exact BK955.out) hb);have n1_:=Aside0.mk (blk_below (g:=gb956) (o:= .cells #[.slice none 0 0,.int .i64 0,.string (⟨#[]⟩:ByteArray),.int .i64 0] 36 (0,0)) (by (with_reducible repeat (first|apply bN|apply bd|apply bA));exact BK956.out) hb);have n2_:=Aside0.mk (below_step (by repeat (first|(with_reducible first|exact HB.out|apply bwA|apply bwN|apply bwD|refine bwS ?_ GE955.out|refine bwS ?_ GE956.out)|exact HB.out)) hb);clear BK955;clear BK956;clear HB;have BK955:=n0_;have BK956:=n1_;have HB:=n2_;clear n0_ n1_ n2_;(try clear hb);(try clear hb2);(try clear hk);(try clear hi))|((with_reducible refine gate_callee (f:=95) rfl ?_);refine goesL_ (some 19) rfl rfl Try.func95 (by kernel_rfl) rfl #[.int .i64 a1,.int .i64 0,.int .i64 100] rfl (by (try simp only [List.map_toArray,List.map_cons,List.map_nil]);first|done|rfl|(simp only [List.length_drop,List.length_take];rfl)) ?_;(with_reducible refine (impl_in.calls a1 0 100 true _ A6.out).mono ?_);rintro e w' ⟨rfl,⟨nd,rfl⟩⟩;refine ⟨_,rfl,?_⟩;(try (rw [drewN_self w17];generalize hq_:World.drewN w17 _=w17;have n0_:Aside0 (w17.heap[gb955]?=some (.cells #[.slice A0_0 l0_0.length c0_0,.int .i64 a0_1,.string a0_2,.int .i64 a0_3] 36 (0,0))):=⟨by rw [← hq_];exact (by (with_reducible repeat (first|apply bN|apply bd|apply bA));exact BK955.out)⟩;have n1_:Aside0 (w17.heap[gb956]?=some (.cells #[.slice none 0 0,.int .i64 0,.string (⟨#[]⟩:ByteArray),.int .i64 0] 36 (0,0))):=⟨by rw [← hq_];exact (by (with_reducible repeat (first|apply bN|apply bd|apply bA));exact BK956.out)⟩;have n2_:Aside0 (Below w.heap.size w w17):=⟨by rw [← hq_];exact (by repeat (first|(with_reducible first|exact HB.out|apply bwA|apply bwN|apply bwD|refine bwS ?_ GE955.out|refine bwS ?_ GE956.out)|exact HB.out))⟩;clear BK955 BK956 HB hq_;have BK955:=n0_;have BK956:=n1_;have HB:=n2_;clear n0_ n1_ n2_)))|(go_at_call 95;(with_reducible refine (impl_in.calls a2 1 65536 true _ A8.out).mono ?_);rintro e w' ⟨rfl,⟨nd,rfl⟩⟩;(try (rw [drewN_self w17];generalize hq_:World.drewN w17 _=w17;have n0_:Aside0 (w17.heap[gb955]?=some (.cells #[.slice A0_0 l0_0.length c0_0,.int .i64 a0_1,.string a0_2,.int .i64 a0_3] 36 (0,0))):=⟨by rw [← hq_];exact (by (with_reducible repeat (first|apply bN|apply bd|apply bA));exact BK955.out)⟩;have n1_:Aside0 (w17.heap[gb956]?=some (.cells #[.slice none 0 0,.int .i64 0,.string (⟨#[]⟩:ByteArray),.int .i64 0] 36 (0,0))):=⟨by rw [← hq_];exact (by (with_reducible repeat (first|apply bN|apply bd|apply bA));exact BK956.out)⟩;have n2_:Aside0 (Below w.heap.size w w17):=⟨by rw [← hq_];exact (by repeat (first|(with_reducible first|exact HB.out|apply bwA|apply bwN|apply bwD|refine bwS ?_ GE955.out|refine bwS ?_ GE956.out)|exact HB.out))⟩;clear BK955 BK956 HB hq_;have BK955:=n0_;have BK956:=n1_;have HB:=n2_;clear n0_ n1_ n2_));have hcz18_0:w17.cell? ⟨gb955,0,none⟩=some (.slice A0_0 l0_0.length c0_0):=(blk_cell BK955.out 0).trans rfl;have hcz18_1:w17.cell? ⟨gb955,1,none⟩=some (.int .i64 a0_1):=(blk_cell BK955.out 1).trans rfl;have hcz18_2:w17.cell? ⟨gb955,2,none⟩=some (.string a0_2):=(blk_cell BK955.out 2).trans rfl;have hcz18_3:w17.cell? ⟨gb955,3,none⟩=some (.int .i64 a0_3):=(blk_cell BK955.out 3).trans rfl;have hfz18_0:=blk_frozen BK955.out 0;have hfz18_1:=blk_frozen BK955.out 1;have hfz18_2:=blk_frozen BK955.out 2;have hfz18_3:=blk_frozen BK955.out 3)|((with_reducible refine gate_callee (f:=73) rfl ?_);refine goesL_ (some 30) rfl rfl Try.func73 (by kernel_rfl) rfl #[.agg #[.slice A0_0 l0_0.length c0_0,.int .i64 a0_1,.string a0_2,.int .i64 a0_3],.int .i64 a1] rfl (by (try simp only [List.map_toArray,List.map_cons,List.map_nil]);first|done|rfl|(simp only [List.length_drop,List.length_take];rfl)) ?_;(with_reducible refine (impl_TakeSome.calls _ _ l0_0 a0_1 a0_2 a0_3 a1 t960 t963 t964 t965 t966 t969 _ ?side1 ?side2 A10.out).mono ?_);(case side1=> repeat (first|exact (Kd.C_below HR0_0.out HB.out)|(with_reducible refine Kd.C_alloc ?_ _)|(with_reducible refine Kd.C_drewN ?_ _)|(with_reducible refine Kd.C_drew ?_)));(case side2=> exact HC0_0.out);rintro e w19 ⟨v961,v967,rfl,ho0,ho1,hb⟩;refine ⟨_,rfl,?_⟩;have n0_:=Aside0.mk (Kd.R_lower ho0 (below_size (by repeat (first|(with_reducible first|exact HB.out|apply bwA|apply bwN|apply bwD|refine bwS ?_ GE955.out|refine bwS ?_ GE956.out)|exact HB.out))));have n1_:=Aside0.mk (Kd.R_lower ho1 (below_size (by repeat (first|(with_reducible first|exact HB.out|apply bwA|apply bwN|apply bwD|refine bwS ?_ GE955.out|refine bwS ?_ GE956.out)|exact HB.out))));have n2_:=Aside0.mk (blk_below (g:=gb955) (o:= .cells #[.slice A0_0 l0_0.length c0_0,.int .i64 a0_1,.string a0_2,.int .i64 a0_3] 36 (0,0)) (by (with_reducible repeat (first|apply bN|apply bd|apply bA));exact BK955.out) hb);have n3_:=Aside0.mk (blk_below (g:=gb956) (o:= .cells #[.slice none 0 0,.int .i64 0,.string (⟨#[]⟩:ByteArray),.int .i64 0] 36 (0,0)) (by (with_reducible repeat (first|apply bN|apply bd|apply bA));exact BK956.out) hb);have n4_:=Aside0.mk (below_step (by repeat (first|(with_reducible first|exact HB.out|apply bwA|apply bwN|apply bwD|refine bwS ?_ GE955.out|refine bwS ?_ GE956.out)|exact HB.out)) hb);clear BK955;clear BK956;clear HB;have HO962:=n0_;have HO968:=n1_;have BK955:=n2_;have BK956:=n3_;have HB:=n4_;clear n0_ n1_ n2_ n3_ n4_;(try clear hb);(try clear hb2);(try clear hk);(try clear hi);(try clear ho0);(try clear ho1))|((with_reducible refine gate_dst (N:=9) rfl ?_);refine box_event ?hg (N:=9) ?hd (cs:= #[.slice none 0 0,.int .i64 0,.string (⟨#[]⟩:ByteArray),.int .i64 0]) (t:=36) ?hr ?_;(case hd=> rfl);(case hg=> rfl);(case hr=> first|(go_simp;done)|(go_simp;rfl));intro gb970 hg w20 hbox hb;have n0_:=Aside0.mk (Kd.R_below (by (with_reducible repeat (first|apply Kd.R_alloc|apply Kd.R_drewN|apply Kd.R_drew));exact HO962.out) hb);have n1_:=Aside0.mk (Kd.R_below (by (with_reducible repeat (first|apply Kd.R_alloc|apply Kd.R_drewN|apply Kd.R_drew));exact HO968.out) hb);have n2_:=Aside0.mk (blk_below (g:=gb955) (o:= .cells #[.slice A0_0 l0_0.length c0_0,.int .i64 a0_1,.string a0_2,.int .i64 a0_3] 36 (0,0)) (by (with_reducible repeat (first|apply bN|apply bd|apply bA));exact BK955.out) hb);have n3_:=Aside0.mk (blk_below (g:=gb956) (o:= .cells #[.slice none 0 0,.int .i64 0,.string (⟨#[]⟩:ByteArray),.int .i64 0] 36 (0,0)) (by (with_reducible repeat (first|apply bN|apply bd|apply bA));exact BK956.out) hb);have n4_:=Aside0.mk (below_step (by repeat (first|(with_reducible first|exact HB.out|apply bwA|apply bwN|apply bwD|refine bwS ?_ GE955.out|refine bwS ?_ GE956.out)|exact HB.out)) hb);have n5_:=Aside0.mk (hbox);have n6_:=Aside0.mk ((by rw [hg];exact (below_size (by repeat (first|(with_reducible first|exact HB.out|apply bwA|apply bwN|apply bwD|refine bwS ?_ GE955.out|refine bwS ?_ GE956.out)|exact HB.out))):w.heap.size ≤ gb970));have n7_:=Aside0.mk ((by rw [hg];exact (below_size (by repeat (first|(with_reducible first|exact HB.out|apply bwA|apply bwN|apply bwD|refine bwS ?_ GE955.out|refine bwS ?_ GE956.out)|exact HB.out))):w.heap.size ≤ gb970));have n8_:=Aside0.mk ((by rw [hg];exact Nat.ne_of_lt (blk_lt (g:=gb955) (o:= .cells #[.slice A0_0 l0_0.length c0_0,.int .i64 a0_1,.string a0_2,.int .i64 a0_3] 36 (0,0)) (by (with_reducible repeat (first|apply bN|apply bd|apply bA));exact BK955.out)):gb955 ≠ gb970));have n9_:=Aside0.mk ((by rw [hg];exact Nat.ne_of_gt (blk_lt (g:=gb955) (o:= .cells #[.slice A0_0 l0_0.length c0_0,.int .i64 a0_1,.string a0_2,.int .i64 a0_3] 36 (0,0)) (by (with_reducible repeat (first|apply bN|apply bd|apply bA));exact BK955.out)):gb970 ≠ gb955));have n10_:=Aside0.mk ((by rw [hg];exact Nat.ne_of_lt (blk_lt (g:=gb956) (o:= .cells #[.slice none 0 0,.int .i64 0,.string (⟨#[]⟩:ByteArray),.int .i64 0] 36 (0,0)) (by (with_reducible repeat (first|apply bN|apply bd|apply bA));exact BK956.out)):gb956 ≠ gb970));have n11_:=Aside0.mk ((by rw [hg];exact Nat.ne_of_gt (blk_lt (g:=gb956) (o:= .cells #[.slice none 0 0,.int .i64 0,.string (⟨#[]⟩:ByteArray),.int .i64 0] 36 (0,0)) (by (with_reducible repeat (first|apply bN|apply bd|apply bA));exact BK956.out)):gb970 ≠ gb956));clear HO962;clear HO968;clear BK955;clear BK956;clear HB;have HO962:=n0_;have HO968:=n1_;have BK955:=n2_;have BK956:=n3_;have HB:=n4_;have BK970:=n5_;have GW970:=n6_;have GE970:=n7_;have NB955_970:=n8_;have NB970_955:=n9_;have NB956_970:=n10_;have NB970_956:=n11_;clear n0_ n1_ n2_ n3_ n4_ n5_ n6_ n7_ n8_ n9_ n10_ n11_;clear hb hbox hg;obtain ⟨Ao21,co21,eo21⟩:=Kd.R_slice HO962.out;subst eo21;have hnb22:=NB970_955.out;have hnc22:=NB955_970.out;have hnb23:=NB970_956.out;have hnc23:=NB956_970.out;have hcz24_0:w20.cell? ⟨gb970,0,none⟩=some (.slice none 0 0):=(blk_cell BK970.out 0).trans rfl;have hcz24_1:w20.cell? ⟨gb970,1,none⟩=some (.int .i64 0):=(blk_cell BK970.out 1).trans rfl;have hcz24_2:w20.cell? ⟨gb970,2,none⟩=some (.string (⟨#[]⟩:ByteArray)):=(blk_cell BK970.out 2).trans rfl;have hcz24_3:w20.cell? ⟨gb970,3,none⟩=some (.int .i64 0):=(blk_cell BK970.out 3).trans rfl;have hfz24_0:=blk_frozen BK970.out 0;have hfz24_1:=blk_frozen BK970.out 1;have hfz24_2:=blk_frozen BK970.out 2;have hfz24_3:=blk_frozen BK970.out 3))
          have n0_:Aside0 (Kd.R k79 79 ((((w20.setCell ⟨gb970,0,none⟩ (.slice Ao21 t960.length co21)).setCell ⟨gb970,1,none⟩ (.int .i64 t963)).setCell ⟨gb970,2,none⟩ (.string t964)).setCell ⟨gb970,3,none⟩ (.int .i64 t965)) w.heap.size (fun k_=> some k_ ≠ (v967:Value).ownBlock) (.slice Ao21 t960.length co21) t960):=⟨by (with_reducible repeat (first|apply Kd.R_alloc|apply Kd.R_drewN|apply Kd.R_drew));exact Kd.R_mono (Kd.R_far (p:=⟨gb970,3,none⟩) (Kd.R_far (p:=⟨gb970,2,none⟩) (Kd.R_far (p:=⟨gb970,1,none⟩) (Kd.R_far (p:=⟨gb970,0,none⟩) (Kd.R_types HO962.out BK970.out (by decide)) (fun _ hk=> hk.2) (.slice Ao21 t960.length co21)) (fun _ hk=> hk.2) (.int .i64 t963)) (fun _ hk=> hk.2) (.string t964)) (fun _ hk=> hk.2) (.int .i64 t965)) (fun _ hk=> hk.1)⟩
          have n1_:Aside0 (Kd.R k79 79 ((((w20.setCell ⟨gb970,0,none⟩ (.slice Ao21 t960.length co21)).setCell ⟨gb970,1,none⟩ (.int .i64 t963)).setCell ⟨gb970,2,none⟩ (.string t964)).setCell ⟨gb970,3,none⟩ (.int .i64 t965)) w.heap.size (fun k_=> some k_ ≠ (.slice Ao21 t960.length co21:Value).ownBlock) v967 t966):=⟨by (with_reducible repeat (first|apply Kd.R_alloc|apply Kd.R_drewN|apply Kd.R_drew));exact Kd.R_mono (Kd.R_far (p:=⟨gb970,3,none⟩) (Kd.R_far (p:=⟨gb970,2,none⟩) (Kd.R_far (p:=⟨gb970,1,none⟩) (Kd.R_far (p:=⟨gb970,0,none⟩) (Kd.R_types HO968.out BK970.out (by decide)) (fun _ hk=> hk.2) (.slice Ao21 t960.length co21)) (fun _ hk=> hk.2) (.int .i64 t963)) (fun _ hk=> hk.2) (.string t964)) (fun _ hk=> hk.2) (.int .i64 t965)) (fun _ hk=> hk.1)⟩
          have n2_:Aside0 (((((w20.setCell ⟨gb970,0,none⟩ (.slice Ao21 t960.length co21)).setCell ⟨gb970,1,none⟩ (.int .i64 t963)).setCell ⟨gb970,2,none⟩ (.string t964)).setCell ⟨gb970,3,none⟩ (.int .i64 t965)).heap[gb955]?=some (.cells #[.slice A0_0 l0_0.length c0_0,.int .i64 a0_1,.string a0_2,.int .i64 a0_3] 36 (0,0))):=⟨by (with_reducible repeat (first|apply bN|apply bd|apply bA));refine blk_far ?_ NB955_970.out _;(with_reducible repeat (first|apply bN|apply bd|apply bA));refine blk_far ?_ NB955_970.out _;(with_reducible repeat (first|apply bN|apply bd|apply bA));refine blk_far ?_ NB955_970.out _;(with_reducible repeat (first|apply bN|apply bd|apply bA));refine blk_far ?_ NB955_970.out _;(with_reducible repeat (first|apply bN|apply bd|apply bA));exact BK955.out⟩
          have n3_:Aside0 (((((w20.setCell ⟨gb970,0,none⟩ (.slice Ao21 t960.length co21)).setCell ⟨gb970,1,none⟩ (.int .i64 t963)).setCell ⟨gb970,2,none⟩ (.string t964)).setCell ⟨gb970,3,none⟩ (.int .i64 t965)).heap[gb956]?=some (.cells #[.slice none 0 0,.int .i64 0,.string (⟨#[]⟩:ByteArray),.int .i64 0] 36 (0,0))):=⟨by (with_reducible repeat (first|apply bN|apply bd|apply bA));refine blk_far ?_ NB956_970.out _;(with_reducible repeat (first|apply bN|apply bd|apply bA));refine blk_far ?_ NB956_970.out _;(with_reducible repeat (first|apply bN|apply bd|apply bA));refine blk_far ?_ NB956_970.out _;(with_reducible repeat (first|apply bN|apply bd|apply bA));refine blk_far ?_ NB956_970.out _;(with_reducible repeat (first|apply bN|apply bd|apply bA));exact BK956.out⟩
          have n4_:Aside0 (((((w20.setCell ⟨gb970,0,none⟩ (.slice Ao21 t960.length co21)).setCell ⟨gb970,1,none⟩ (.int .i64 t963)).setCell ⟨gb970,2,none⟩ (.string t964)).setCell ⟨gb970,3,none⟩ (.int .i64 t965)).heap[gb970]?=some (.cells #[.slice Ao21 t960.length co21,.int .i64 t963,.string t964,.int .i64 t965] 36 (0,0))):=⟨by (with_reducible repeat (first|apply bN|apply bd|apply bA));refine blk_put (cs:= #[.slice Ao21 t960.length co21,.int .i64 t963,.string t964,.int .i64 0]) ?_ 3 _ rfl;(with_reducible repeat (first|apply bN|apply bd|apply bA));refine blk_put (cs:= #[.slice Ao21 t960.length co21,.int .i64 t963,.string (⟨#[]⟩:ByteArray),.int .i64 0]) ?_ 2 _ rfl;(with_reducible repeat (first|apply bN|apply bd|apply bA));refine blk_put (cs:= #[.slice Ao21 t960.length co21,.int .i64 0,.string (⟨#[]⟩:ByteArray),.int .i64 0]) ?_ 1 _ rfl;(with_reducible repeat (first|apply bN|apply bd|apply bA));refine blk_put (cs:= #[.slice none 0 0,.int .i64 0,.string (⟨#[]⟩:ByteArray),.int .i64 0]) ?_ 0 _ rfl;(with_reducible repeat (first|apply bN|apply bd|apply bA));exact BK970.out⟩
          have n5_:Aside0 (Below w.heap.size w ((((w20.setCell ⟨gb970,0,none⟩ (.slice Ao21 t960.length co21)).setCell ⟨gb970,1,none⟩ (.int .i64 t963)).setCell ⟨gb970,2,none⟩ (.string t964)).setCell ⟨gb970,3,none⟩ (.int .i64 t965))):=⟨by repeat (first|(with_reducible first|exact HB.out|apply bwA|apply bwN|apply bwD|refine bwS ?_ GE955.out|refine bwS ?_ GE956.out|refine bwS ?_ GE970.out)|exact HB.out)⟩
          (try clear HO962)
          (try clear HO968)
          (try clear BK955)
          (try clear BK956)
          (try clear BK970)
          (try clear HB)
          generalize ((((w20.setCell ⟨gb970,0,none⟩ (.slice Ao21 t960.length co21)).setCell ⟨gb970,1,none⟩ (.int .i64 t963)).setCell ⟨gb970,2,none⟩ (.string t964)).setCell ⟨gb970,3,none⟩ (.int .i64 t965))=w25 at n0_ n1_ n2_ n3_ n4_ n5_ ⊢
          have HO962:=n0_
          have HO968:=n1_
          have BK955:=n2_
          have BK956:=n3_
          have BK970:=n4_
          have HB:=n5_
          clear n0_ n1_ n2_ n3_ n4_ n5_
          have n0_:=Aside0.mk (Kd.R_drew HO962.out)
          have n1_:=Aside0.mk (Kd.R_drew HO968.out)
          have n2_:=Aside0.mk (blk_drew BK955.out)
          have n3_:=Aside0.mk (blk_drew BK956.out)
          have n4_:=Aside0.mk (blk_drew BK970.out)
          have n5_:=Aside0.mk (bwD HB.out)
          clear HO962
          clear HO968
          clear BK955
          clear BK956
          clear BK970
          clear HB
          have HO962:=n0_
          have HO968:=n1_
          have BK955:=n2_
          have BK956:=n3_
          have BK970:=n4_
          have HB:=n5_
          clear n0_ n1_ n2_ n3_ n4_ n5_
          obtain ⟨Ao27,co27,eo27⟩:=Kd.R_slice HO968.out
          (first|subst eo27|(injection eo27 with f1_ f2_ f3_;have f4_:=f1_.symm;have f5_:=f3_.symm;clear f1_ f2_ f3_;subst f4_;subst f5_))
          refine start_ (n:=7) (S:=fun w'=> w'.cell? ⟨gb970,0,none⟩=some (.slice Ao21 t960.length co21) ∧ w'.cell? ⟨gb970,1,none⟩=some (.int .i64 t963) ∧ w'.cell? ⟨gb970,2,none⟩=some (.string t964) ∧ w'.cell? ⟨gb970,3,none⟩=some (.int .i64 t965)) (ds:= []) #[false,false,false,false,false,false,false] (by kernel_rfl) rfl rfl ⟨(blk_cell BK970.out 0).trans rfl,(blk_cell BK970.out 1).trans rfl,(blk_cell BK970.out 2).trans rfl,(blk_cell BK970.out 3).trans rfl⟩ (fun hHeld=> ?_)
          generalize w25.drew=w26 at HO962 HO968 BK955 BK956 BK970 HB hHeld ⊢
          refine pure_ (i:=1) (N:=some 39) (v:=?_) (a':=?_) #[false,true,false,false,false,false,false] rfl rfl (by kernel_rfl) (fun _ _ _ h=> h) (Or.inl ⟨by rfl,?_⟩) ?_ ?_
          rotate_left
          · intro w'
            go_simp
            with_reducible rfl
          rotate_left
          · simp only [Act.put,List.setIfInBounds_toArray,List.set_cons_zero,List.set_cons_succ,i64_w,i32_w]
            rfl
          refine pure_ (i:=2) (N:=some 40) (v:=?_) (a':=?_) #[false,true,true,false,false,false,false] rfl rfl (by kernel_rfl) (fun _ _ _ h=> h) (Or.inl ⟨by rfl,?_⟩) ?_ ?_
          rotate_left
          · intro w'
            go_simp
            with_reducible rfl
          rotate_left
          · simp only [Act.put,List.setIfInBounds_toArray,List.set_cons_zero,List.set_cons_succ,i64_w,i32_w]
            rfl
          refine take_ (i:=0) (N:=some 38) (v:=?_) (a':=?_) #[true,true,true,false,false,false,false] rfl rfl (by kernel_rfl) (fun _ _ _ h=> h) (Or.inl ⟨by rfl,?_⟩) hHeld ?_ ?_
          rotate_left
          · rintro w' ⟨s0,s1,s2,s3⟩
            go_simp
            with_reducible rfl
          rotate_left
          · simp only [Act.put,List.setIfInBounds_toArray,List.set_cons_zero,List.set_cons_succ,i64_w,i32_w]
            rfl
          refine one_ (i:=3) (N:=some 41) #[true,true,true,true,false,false,false] rfl rfl (by kernel_rfl) (by decide) (fun K hK=> ?_)
          refine goes_ Try.func137 (by kernel_rfl) rfl #[.slice Ao27 t966.length co27,.int .i64 a2] (by rfl) rfl rfl (by (try simp only [List.map_toArray,List.map_cons,List.map_nil]);first|done|rfl|(simp only [List.length_drop,List.length_take];rfl)) ?_
          with_reducible refine (impl_places.calls k _ _ t966 a2 t971 _ ?side1 ?side2 A12.out).mono ?_
          (case side1=> repeat (first|exact (Kd.R_reads' HO968.out).2.2|(with_reducible refine Kd.C_alloc ?_ _)|(with_reducible refine Kd.C_drewN ?_ _)|(with_reducible refine Kd.C_drew ?_)))
          (case side2=> exact (Kd.R_reads' HO968.out).2.1)
          rintro e w28 ⟨v972,rfl,ho0,hb⟩
          refine ⟨_,rfl,?_⟩
          have n0_:=Aside0.mk (Kd.R_below (by (with_reducible repeat (first|apply Kd.R_alloc|apply Kd.R_drewN|apply Kd.R_drew));exact HO962.out) hb)
          have n1_:=Aside0.mk (Kd.R_below (by (with_reducible repeat (first|apply Kd.R_alloc|apply Kd.R_drewN|apply Kd.R_drew));exact HO968.out) hb)
          have n2_:=Aside0.mk (Kd.R_lower ho0 (below_size (by repeat (first|(with_reducible first|exact HB.out|apply bwA|apply bwN|apply bwD|refine bwS ?_ GE955.out|refine bwS ?_ GE956.out|refine bwS ?_ GE970.out)|exact HB.out))))
          have n3_:=Aside0.mk (blk_below (g:=gb955) (o:= .cells #[.slice A0_0 l0_0.length c0_0,.int .i64 a0_1,.string a0_2,.int .i64 a0_3] 36 (0,0)) (by (with_reducible repeat (first|apply bN|apply bd|apply bA));exact BK955.out) hb)
          have n4_:=Aside0.mk (blk_below (g:=gb956) (o:= .cells #[.slice none 0 0,.int .i64 0,.string (⟨#[]⟩:ByteArray),.int .i64 0] 36 (0,0)) (by (with_reducible repeat (first|apply bN|apply bd|apply bA));exact BK956.out) hb)
          have n5_:=Aside0.mk (blk_below (g:=gb970) (o:= .cells #[.slice Ao21 t960.length co21,.int .i64 t963,.string t964,.int .i64 t965] 36 (0,0)) (by (with_reducible repeat (first|apply bN|apply bd|apply bA));exact BK970.out) hb)
          have n6_:=Aside0.mk (below_step (by repeat (first|(with_reducible first|exact HB.out|apply bwA|apply bwN|apply bwD|refine bwS ?_ GE955.out|refine bwS ?_ GE956.out|refine bwS ?_ GE970.out)|exact HB.out)) hb)
          clear HO962
          clear HO968
          clear BK955
          clear BK956
          clear BK970
          clear HB
          have HO962:=n0_
          have HO968:=n1_
          have HO973:=n2_
          have BK955:=n3_
          have BK956:=n4_
          have BK970:=n5_
          have HB:=n6_
          clear n0_ n1_ n2_ n3_ n4_ n5_ n6_
          (try clear hb)
          (try clear hb2)
          (try clear hk)
          (try clear hi)
          (try clear ho0)
          refine hK.out _ _ ⟨(blk_cell BK970.out 0).trans rfl,(blk_cell BK970.out 1).trans rfl,(blk_cell BK970.out 2).trans rfl,(blk_cell BK970.out 3).trans rfl⟩ (fun hHeld=> ?_)
          clear hK K
          refine norm_ (a':=?_) ?_ ?_
          rotate_left
          · show Act.put _ (some 41) _=_
            simp only [Act.put,List.setIfInBounds_toArray,List.set_cons_zero,List.set_cons_succ,i64_w,i32_w]
            rfl
          refine one_ (i:=4) (N:=none) #[true,true,true,true,true,false,false] rfl rfl (by kernel_rfl) (by decide) (fun K hK=> ?_)
          have hs29:w28.cell? ⟨gb956,0,none⟩=some (.slice none 0 0):=(blk_cell BK956.out 0).trans rfl
          have hfs29:=blk_frozen BK956.out 0
          have hns29_0:=NB955_956.out
          have hns29_2:=NB970_956.out
          have hms29_0:=NB956_955.out
          have hms29_2:=NB956_970.out
          have hs30:w28.cell? ⟨gb956,1,none⟩=some (.int .i64 0):=(blk_cell BK956.out 1).trans rfl
          have hfs30:=blk_frozen BK956.out 1
          have hns30_0:=NB955_956.out
          have hns30_2:=NB970_956.out
          have hms30_0:=NB956_955.out
          have hms30_2:=NB956_970.out
          have hs31:w28.cell? ⟨gb956,2,none⟩=some (.string (⟨#[]⟩:ByteArray)):=(blk_cell BK956.out 2).trans rfl
          have hfs31:=blk_frozen BK956.out 2
          have hns31_0:=NB955_956.out
          have hns31_2:=NB970_956.out
          have hms31_0:=NB956_955.out
          have hms31_2:=NB956_970.out
          have hs32:w28.cell? ⟨gb956,3,none⟩=some (.int .i64 0):=(blk_cell BK956.out 3).trans rfl
          have hfs32:=blk_frozen BK956.out 3
          have hns32_0:=NB955_956.out
          have hns32_2:=NB970_956.out
          have hms32_0:=NB956_955.out
          have hms32_2:=NB956_970.out
          refine skip_ (w1:=?_) (by rfl) rfl ?_ ?_
          rotate_left
          · go_simp
            rfl
          refine hK.out _ _ ⟨((cell_far (p:=⟨gb956,_,none⟩) NB970_956.out _).trans (((cell_far (p:=⟨gb956,_,none⟩) NB970_956.out _).trans (((cell_far (p:=⟨gb956,_,none⟩) NB970_956.out _).trans (((cell_far (p:=⟨gb956,_,none⟩) NB970_956.out _).trans (hHeld.1)))))))),((cell_far (p:=⟨gb956,_,none⟩) NB970_956.out _).trans (((cell_far (p:=⟨gb956,_,none⟩) NB970_956.out _).trans (((cell_far (p:=⟨gb956,_,none⟩) NB970_956.out _).trans (((cell_far (p:=⟨gb956,_,none⟩) NB970_956.out _).trans (hHeld.2.1)))))))),((cell_far (p:=⟨gb956,_,none⟩) NB970_956.out _).trans (((cell_far (p:=⟨gb956,_,none⟩) NB970_956.out _).trans (((cell_far (p:=⟨gb956,_,none⟩) NB970_956.out _).trans (((cell_far (p:=⟨gb956,_,none⟩) NB970_956.out _).trans (hHeld.2.2.1)))))))),((cell_far (p:=⟨gb956,_,none⟩) NB970_956.out _).trans (((cell_far (p:=⟨gb956,_,none⟩) NB970_956.out _).trans (((cell_far (p:=⟨gb956,_,none⟩) NB970_956.out _).trans (((cell_far (p:=⟨gb956,_,none⟩) NB970_956.out _).trans (hHeld.2.2.2))))))))⟩ (fun hHeld=> ?_)
          clear hK K
          refine pure_ (i:=5) (N:=some 7) (v:=?_) (a':=?_) #[true,true,true,true,true,true,false] rfl rfl (by kernel_rfl) (fun _ _ _ h=> h) (Or.inl ⟨by rfl,?_⟩) ?_ ?_
          rotate_left
          · intro w'
            go_simp
            with_reducible rfl
          rotate_left
          · simp only [Act.put,List.setIfInBounds_toArray,List.set_cons_zero,List.set_cons_succ,i64_w,i32_w]
            rfl
          refine pure_ (i:=6) (N:=some 8) (v:=?_) (a':=?_) #[true,true,true,true,true,true,true] rfl rfl (by kernel_rfl) (fun _ _ _ h=> h) (Or.inl ⟨by rfl,?_⟩) ?_ ?_
          rotate_left
          · intro w'
            go_simp
            with_reducible rfl
          rotate_left
          · simp only [Act.put,List.setIfInBounds_toArray,List.set_cons_zero,List.set_cons_succ,i64_w,i32_w]
            rfl
          refine done_ (by kernel_rfl) ?_
          try go_wp2
          refine bodyPost_ret (results_ctt rfl _ _ gb956 36 #[.slice Ao21 t960.length co21,.int .i64 t963,.string t964,.int .i64 t965] (0,0) _ rfl (by (with_reducible repeat (first|apply bN|apply bd|apply bA));refine blk_put (cs:= #[.slice Ao21 t960.length co21,.int .i64 t963,.string t964,.int .i64 0]) ?_ 3 _ rfl;(with_reducible repeat (first|apply bN|apply bd|apply bA));refine blk_put (cs:= #[.slice Ao21 t960.length co21,.int .i64 t963,.string (⟨#[]⟩:ByteArray),.int .i64 0]) ?_ 2 _ rfl;(with_reducible repeat (first|apply bN|apply bd|apply bA));refine blk_put (cs:= #[.slice Ao21 t960.length co21,.int .i64 0,.string (⟨#[]⟩:ByteArray),.int .i64 0]) ?_ 1 _ rfl;(with_reducible repeat (first|apply bN|apply bd|apply bA));refine blk_put (cs:= #[.slice none 0 0,.int .i64 0,.string (⟨#[]⟩:ByteArray),.int .i64 0]) ?_ 0 _ rfl;(with_reducible repeat (first|apply bN|apply bd|apply bA));exact BK956.out) Try.underlying36 rfl (by kernel_rfl)) rfl ?_
          exact ⟨_,_,by first|rfl|(simp [errW_none,errW_some] <;> rfl)|(simp [*,errW_none,errW_some] <;> rfl),by (with_reducible repeat (first|apply Kd.R_alloc|apply Kd.R_drewN|apply Kd.R_drew));exact Kd.R_mono (Kd.R_far (p:=⟨gb956,3,none⟩) (Kd.R_far (p:=⟨gb956,2,none⟩) (Kd.R_far (p:=⟨gb956,1,none⟩) (Kd.R_far (p:=⟨gb956,0,none⟩) (Kd.R_types HO962.out BK956.out (by decide)) (fun _ hk=> hk.2) (.slice Ao21 t960.length co21)) (fun _ hk=> hk.2) (.int .i64 t963)) (fun _ hk=> hk.2) (.string t964)) (fun _ hk=> hk.2) (.int .i64 t965)) (fun _ hk=> trivial),by (with_reducible repeat (first|apply Kd.R_alloc|apply Kd.R_drewN|apply Kd.R_drew));exact Kd.R_mono (Kd.R_far (p:=⟨gb956,3,none⟩) (Kd.R_far (p:=⟨gb956,2,none⟩) (Kd.R_far (p:=⟨gb956,1,none⟩) (Kd.R_far (p:=⟨gb956,0,none⟩) (Kd.R_types HO973.out BK956.out (by decide)) (fun _ hk=> hk.2) (.slice Ao21 t960.length co21)) (fun _ hk=> hk.2) (.int .i64 t963)) (fun _ hk=> hk.2) (.string t964)) (fun _ hk=> hk.2) (.int .i64 t965)) (fun _ hk=> trivial),by repeat (first|(with_reducible first|exact HB.out|apply bwA|apply bwN|apply bwD|refine bwS ?_ GE955.out|refine bwS ?_ GE956.out|refine bwS ?_ GE970.out)|exact HB.out)⟩
        · rw [if_neg c11] at H
          have c11b0:(t969==0)=false:=beq_eq_false_iff_ne.mpr c11
          have c11b1:(t969 !=0)=true:=bne_iff_ne.mpr c11
          simp only [Option.some.injEq,Prod.mk.injEq] at H
          obtain ⟨rfl,rfl,rfl,rfl,rfl,rfl⟩:=H
          go_enter Try.func76,Try.ntmps76
          go_wp2_with (first|((with_reducible refine gate_dst (N:=3) rfl ?_);refine box_event ?hg (N:=3) ?hd (cs:= #[.slice A0_0 l0_0.length c0_0,.int .i64 a0_1,.string a0_2,.int .i64 a0_3]) (t:=36) ?hr ?_;(case hd=> rfl);(case hg=> rfl);(case hr=> first|(go_simp;done)|(go_simp;rfl));intro gb955 hg w33 hbox hb;have n0_:=Aside0.mk (below_step (by repeat (first|(with_reducible first|exact HB.out|apply bwA|apply bwN|apply bwD)|exact HB.out)) hb);have n1_:=Aside0.mk (hbox);have n2_:=Aside0.mk ((by rw [hg];exact (below_size (by repeat (first|(with_reducible first|exact HB.out|apply bwA|apply bwN|apply bwD)|exact HB.out))):w.heap.size ≤ gb955));have n3_:=Aside0.mk ((by rw [hg];exact (below_size (by repeat (first|(with_reducible first|exact HB.out|apply bwA|apply bwN|apply bwD)|exact HB.out))):w.heap.size ≤ gb955));clear HB;have HB:=n0_;have BK955:=n1_;have GW955:=n2_;have GE955:=n3_;clear n0_ n1_ n2_ n3_;clear hb hbox hg)|((with_reducible refine gate_dst (N:=6) rfl ?_);refine box_event ?hg (N:=6) ?hd (cs:= #[.slice none 0 0,.int .i64 0,.string (⟨#[]⟩:ByteArray),.int .i64 0]) (t:=36) ?hr ?_;(case hd=> rfl);(case hg=> rfl);(case hr=> first|(go_simp;done)|(go_simp;rfl));intro gb956 hg w34 hbox hb;have n0_:=Aside0.mk (blk_below (g:=gb955) (o:= .cells #[.slice A0_0 l0_0.length c0_0,.int .i64 a0_1,.string a0_2,.int .i64 a0_3] 36 (0,0)) (by (with_reducible repeat (first|apply bN|apply bd|apply bA));exact BK955.out) hb);have n1_:=Aside0.mk (below_step (by repeat (first|(with_reducible first|exact HB.out|apply bwA|apply bwN|apply bwD|refine bwS ?_ GE955.out)|exact HB.out)) hb);have n2_:=Aside0.mk (hbox);have n3_:=Aside0.mk ((by rw [hg];exact (below_size (by repeat (first|(with_reducible first|exact HB.out|apply bwA|apply bwN|apply bwD|refine bwS ?_ GE955.out)|exact HB.out))):w.heap.size ≤ gb956));have n4_:=Aside0.mk ((by rw [hg];exact (below_size (by repeat (first|(with_reducible first|exact HB.out|apply bwA|apply bwN|apply bwD|refine bwS ?_ GE955.out)|exact HB.out))):w.heap.size ≤ gb956));have n5_:=Aside0.mk ((by rw [hg];exact Nat.ne_of_lt (blk_lt (g:=gb955) (o:= .cells #[.slice A0_0 l0_0.length c0_0,.int .i64 a0_1,.string a0_2,.int .i64 a0_3] 36 (0,0)) (by (with_reducible repeat (first|apply bN|apply bd|apply bA));exact BK955.out)):gb955 ≠ gb956));have n6_:=Aside0.mk ((by rw [hg];exact Nat.ne_of_gt (blk_lt (g:=gb955) (o:= .cells #[.slice A0_0 l0_0.length c0_0,.int .i64 a0_1,.string a0_2,.int .i64 a0_3] 36 (0,0)) (by (with_reducible repeat (first|apply bN|apply bd|apply bA));exact BK955.out)):gb956 ≠ gb955));clear BK955;clear HB;have BK955:=n0_;have HB:=n1_;have BK956:=n2_;have GW956:=n3_;have GE956:=n4_;have NB955_956:=n5_;have NB956_955:=n6_;clear n0_ n1_ n2_ n3_ n4_ n5_ n6_;clear hb hbox hg;have hnb35:=NB955_956.out;have hnc35:=NB956_955.out;have hcz36_0:w34.cell? ⟨gb955,0,none⟩=some (.slice A0_0 l0_0.length c0_0):=(blk_cell BK955.out 0).trans rfl;have hcz36_1:w34.cell? ⟨gb955,1,none⟩=some (.int .i64 a0_1):=(blk_cell BK955.out 1).trans rfl;have hcz36_2:w34.cell? ⟨gb955,2,none⟩=some (.string a0_2):=(blk_cell BK955.out 2).trans rfl;have hcz36_3:w34.cell? ⟨gb955,3,none⟩=some (.int .i64 a0_3):=(blk_cell BK955.out 3).trans rfl;have hfz36_0:=blk_frozen BK955.out 0;have hfz36_1:=blk_frozen BK955.out 1;have hfz36_2:=blk_frozen BK955.out 2;have hfz36_3:=blk_frozen BK955.out 3)|((with_reducible refine gate_callee (f:=116) rfl ?_);refine goesL_ (some 14) rfl rfl Try.func116 (by kernel_rfl) rfl #[.agg #[.slice A0_0 l0_0.length c0_0,.int .i64 a0_1,.string a0_2,.int .i64 a0_3]] rfl (by (try simp only [List.map_toArray,List.map_cons,List.map_nil]);first|done|rfl|(simp only [List.length_drop,List.length_take];rfl)) ?_;(with_reducible refine (impl_SourceOK.calls _ _ l0_0 a0_1 a0_2 a0_3 true _ ?side1 ?side2 A4.out).mono ?_);(case side1=> repeat (first|exact (Kd.C_below HR0_0.out HB.out)|(with_reducible refine Kd.C_alloc ?_ _)|(with_reducible refine Kd.C_drewN ?_ _)|(with_reducible refine Kd.C_drew ?_)));(case side2=> exact HC0_0.out);rintro e w37 ⟨rfl,hb⟩;refine ⟨_,rfl,?_⟩;have n0_:=Aside0.mk (blk_below (g:=gb955) (o:= .cells #[.slice A0_0 l0_0.length c0_0,.int .i64 a0_1,.string a0_2,.int .i64 a0_3] 36 (0,0)) (by (with_reducible repeat (first|apply bN|apply bd|apply bA));exact BK955.out) hb);have n1_:=Aside0.mk (blk_below (g:=gb956) (o:= .cells #[.slice none 0 0,.int .i64 0,.string (⟨#[]⟩:ByteArray),.int .i64 0] 36 (0,0)) (by (with_reducible repeat (first|apply bN|apply bd|apply bA));exact BK956.out) hb);have n2_:=Aside0.mk (below_step (by repeat (first|(with_reducible first|exact HB.out|apply bwA|apply bwN|apply bwD|refine bwS ?_ GE955.out|refine bwS ?_ GE956.out)|exact HB.out)) hb);clear BK955;clear BK956;clear HB;have BK955:=n0_;have BK956:=n1_;have HB:=n2_;clear n0_ n1_ n2_;(try clear hb);(try clear hb2);(try clear hk);(try clear hi))|((with_reducible refine gate_callee (f:=95) rfl ?_);refine goesL_ (some 19) rfl rfl Try.func95 (by kernel_rfl) rfl #[.int .i64 a1,.int .i64 0,.int .i64 100] rfl (by (try simp only [List.map_toArray,List.map_cons,List.map_nil]);first|done|rfl|(simp only [List.length_drop,List.length_take];rfl)) ?_;(with_reducible refine (impl_in.calls a1 0 100 true _ A6.out).mono ?_);rintro e w' ⟨rfl,⟨nd,rfl⟩⟩;refine ⟨_,rfl,?_⟩;(try (rw [drewN_self w37];generalize hq_:World.drewN w37 _=w37;have n0_:Aside0 (w37.heap[gb955]?=some (.cells #[.slice A0_0 l0_0.length c0_0,.int .i64 a0_1,.string a0_2,.int .i64 a0_3] 36 (0,0))):=⟨by rw [← hq_];exact (by (with_reducible repeat (first|apply bN|apply bd|apply bA));exact BK955.out)⟩;have n1_:Aside0 (w37.heap[gb956]?=some (.cells #[.slice none 0 0,.int .i64 0,.string (⟨#[]⟩:ByteArray),.int .i64 0] 36 (0,0))):=⟨by rw [← hq_];exact (by (with_reducible repeat (first|apply bN|apply bd|apply bA));exact BK956.out)⟩;have n2_:Aside0 (Below w.heap.size w w37):=⟨by rw [← hq_];exact (by repeat (first|(with_reducible first|exact HB.out|apply bwA|apply bwN|apply bwD|refine bwS ?_ GE955.out|refine bwS ?_ GE956.out)|exact HB.out))⟩;clear BK955 BK956 HB hq_;have BK955:=n0_;have BK956:=n1_;have HB:=n2_;clear n0_ n1_ n2_)))|(go_at_call 95;(with_reducible refine (impl_in.calls a2 1 65536 true _ A8.out).mono ?_);rintro e w' ⟨rfl,⟨nd,rfl⟩⟩;(try (rw [drewN_self w37];generalize hq_:World.drewN w37 _=w37;have n0_:Aside0 (w37.heap[gb955]?=some (.cells #[.slice A0_0 l0_0.length c0_0,.int .i64 a0_1,.string a0_2,.int .i64 a0_3] 36 (0,0))):=⟨by rw [← hq_];exact (by (with_reducible repeat (first|apply bN|apply bd|apply bA));exact BK955.out)⟩;have n1_:Aside0 (w37.heap[gb956]?=some (.cells #[.slice none 0 0,.int .i64 0,.string (⟨#[]⟩:ByteArray),.int .i64 0] 36 (0,0))):=⟨by rw [← hq_];exact (by (with_reducible repeat (first|apply bN|apply bd|apply bA));exact BK956.out)⟩;have n2_:Aside0 (Below w.heap.size w w37):=⟨by rw [← hq_];exact (by repeat (first|(with_reducible first|exact HB.out|apply bwA|apply bwN|apply bwD|refine bwS ?_ GE955.out|refine bwS ?_ GE956.out)|exact HB.out))⟩;clear BK955 BK956 HB hq_;have BK955:=n0_;have BK956:=n1_;have HB:=n2_;clear n0_ n1_ n2_));have hcz38_0:w37.cell? ⟨gb955,0,none⟩=some (.slice A0_0 l0_0.length c0_0):=(blk_cell BK955.out 0).trans rfl;have hcz38_1:w37.cell? ⟨gb955,1,none⟩=some (.int .i64 a0_1):=(blk_cell BK955.out 1).trans rfl;have hcz38_2:w37.cell? ⟨gb955,2,none⟩=some (.string a0_2):=(blk_cell BK955.out 2).trans rfl;have hcz38_3:w37.cell? ⟨gb955,3,none⟩=some (.int .i64 a0_3):=(blk_cell BK955.out 3).trans rfl;have hfz38_0:=blk_frozen BK955.out 0;have hfz38_1:=blk_frozen BK955.out 1;have hfz38_2:=blk_frozen BK955.out 2;have hfz38_3:=blk_frozen BK955.out 3)|((with_reducible refine gate_callee (f:=73) rfl ?_);refine goesL_ (some 30) rfl rfl Try.func73 (by kernel_rfl) rfl #[.agg #[.slice A0_0 l0_0.length c0_0,.int .i64 a0_1,.string a0_2,.int .i64 a0_3],.int .i64 a1] rfl (by (try simp only [List.map_toArray,List.map_cons,List.map_nil]);first|done|rfl|(simp only [List.length_drop,List.length_take];rfl)) ?_;(with_reducible refine (impl_TakeSome.calls _ _ l0_0 a0_1 a0_2 a0_3 a1 t960 t963 t964 t965 t966 t969 _ ?side1 ?side2 A10.out).mono ?_);(case side1=> repeat (first|exact (Kd.C_below HR0_0.out HB.out)|(with_reducible refine Kd.C_alloc ?_ _)|(with_reducible refine Kd.C_drewN ?_ _)|(with_reducible refine Kd.C_drew ?_)));(case side2=> exact HC0_0.out);rintro e w39 ⟨v961,v967,rfl,ho0,ho1,hb⟩;refine ⟨_,rfl,?_⟩;have n0_:=Aside0.mk (Kd.R_lower ho0 (below_size (by repeat (first|(with_reducible first|exact HB.out|apply bwA|apply bwN|apply bwD|refine bwS ?_ GE955.out|refine bwS ?_ GE956.out)|exact HB.out))));have n1_:=Aside0.mk (Kd.R_lower ho1 (below_size (by repeat (first|(with_reducible first|exact HB.out|apply bwA|apply bwN|apply bwD|refine bwS ?_ GE955.out|refine bwS ?_ GE956.out)|exact HB.out))));have n2_:=Aside0.mk (blk_below (g:=gb955) (o:= .cells #[.slice A0_0 l0_0.length c0_0,.int .i64 a0_1,.string a0_2,.int .i64 a0_3] 36 (0,0)) (by (with_reducible repeat (first|apply bN|apply bd|apply bA));exact BK955.out) hb);have n3_:=Aside0.mk (blk_below (g:=gb956) (o:= .cells #[.slice none 0 0,.int .i64 0,.string (⟨#[]⟩:ByteArray),.int .i64 0] 36 (0,0)) (by (with_reducible repeat (first|apply bN|apply bd|apply bA));exact BK956.out) hb);have n4_:=Aside0.mk (below_step (by repeat (first|(with_reducible first|exact HB.out|apply bwA|apply bwN|apply bwD|refine bwS ?_ GE955.out|refine bwS ?_ GE956.out)|exact HB.out)) hb);clear BK955;clear BK956;clear HB;have HO962:=n0_;have HO968:=n1_;have BK955:=n2_;have BK956:=n3_;have HB:=n4_;clear n0_ n1_ n2_ n3_ n4_;(try clear hb);(try clear hb2);(try clear hk);(try clear hi);(try clear ho0);(try clear ho1))|((with_reducible refine gate_dst (N:=9) rfl ?_);refine box_event ?hg (N:=9) ?hd (cs:= #[.slice none 0 0,.int .i64 0,.string (⟨#[]⟩:ByteArray),.int .i64 0]) (t:=36) ?hr ?_;(case hd=> rfl);(case hg=> rfl);(case hr=> first|(go_simp;done)|(go_simp;rfl));intro gb970 hg w40 hbox hb;have n0_:=Aside0.mk (Kd.R_below (by (with_reducible repeat (first|apply Kd.R_alloc|apply Kd.R_drewN|apply Kd.R_drew));exact HO962.out) hb);have n1_:=Aside0.mk (Kd.R_below (by (with_reducible repeat (first|apply Kd.R_alloc|apply Kd.R_drewN|apply Kd.R_drew));exact HO968.out) hb);have n2_:=Aside0.mk (blk_below (g:=gb955) (o:= .cells #[.slice A0_0 l0_0.length c0_0,.int .i64 a0_1,.string a0_2,.int .i64 a0_3] 36 (0,0)) (by (with_reducible repeat (first|apply bN|apply bd|apply bA));exact BK955.out) hb);have n3_:=Aside0.mk (blk_below (g:=gb956) (o:= .cells #[.slice none 0 0,.int .i64 0,.string (⟨#[]⟩:ByteArray),.int .i64 0] 36 (0,0)) (by (with_reducible repeat (first|apply bN|apply bd|apply bA));exact BK956.out) hb);have n4_:=Aside0.mk (below_step (by repeat (first|(with_reducible first|exact HB.out|apply bwA|apply bwN|apply bwD|refine bwS ?_ GE955.out|refine bwS ?_ GE956.out)|exact HB.out)) hb);have n5_:=Aside0.mk (hbox);have n6_:=Aside0.mk ((by rw [hg];exact (below_size (by repeat (first|(with_reducible first|exact HB.out|apply bwA|apply bwN|apply bwD|refine bwS ?_ GE955.out|refine bwS ?_ GE956.out)|exact HB.out))):w.heap.size ≤ gb970));have n7_:=Aside0.mk ((by rw [hg];exact (below_size (by repeat (first|(with_reducible first|exact HB.out|apply bwA|apply bwN|apply bwD|refine bwS ?_ GE955.out|refine bwS ?_ GE956.out)|exact HB.out))):w.heap.size ≤ gb970));have n8_:=Aside0.mk ((by rw [hg];exact Nat.ne_of_lt (blk_lt (g:=gb955) (o:= .cells #[.slice A0_0 l0_0.length c0_0,.int .i64 a0_1,.string a0_2,.int .i64 a0_3] 36 (0,0)) (by (with_reducible repeat (first|apply bN|apply bd|apply bA));exact BK955.out)):gb955 ≠ gb970));have n9_:=Aside0.mk ((by rw [hg];exact Nat.ne_of_gt (blk_lt (g:=gb955) (o:= .cells #[.slice A0_0 l0_0.length c0_0,.int .i64 a0_1,.string a0_2,.int .i64 a0_3] 36 (0,0)) (by (with_reducible repeat (first|apply bN|apply bd|apply bA));exact BK955.out)):gb970 ≠ gb955));have n10_:=Aside0.mk ((by rw [hg];exact Nat.ne_of_lt (blk_lt (g:=gb956) (o:= .cells #[.slice none 0 0,.int .i64 0,.string (⟨#[]⟩:ByteArray),.int .i64 0] 36 (0,0)) (by (with_reducible repeat (first|apply bN|apply bd|apply bA));exact BK956.out)):gb956 ≠ gb970));have n11_:=Aside0.mk ((by rw [hg];exact Nat.ne_of_gt (blk_lt (g:=gb956) (o:= .cells #[.slice none 0 0,.int .i64 0,.string (⟨#[]⟩:ByteArray),.int .i64 0] 36 (0,0)) (by (with_reducible repeat (first|apply bN|apply bd|apply bA));exact BK956.out)):gb970 ≠ gb956));clear HO962;clear HO968;clear BK955;clear BK956;clear HB;have HO962:=n0_;have HO968:=n1_;have BK955:=n2_;have BK956:=n3_;have HB:=n4_;have BK970:=n5_;have GW970:=n6_;have GE970:=n7_;have NB955_970:=n8_;have NB970_955:=n9_;have NB956_970:=n10_;have NB970_956:=n11_;clear n0_ n1_ n2_ n3_ n4_ n5_ n6_ n7_ n8_ n9_ n10_ n11_;clear hb hbox hg;obtain ⟨Ao41,co41,eo41⟩:=Kd.R_slice HO962.out;subst eo41;have hnb42:=NB970_955.out;have hnc42:=NB955_970.out;have hnb43:=NB970_956.out;have hnc43:=NB956_970.out;have hcz44_0:w40.cell? ⟨gb970,0,none⟩=some (.slice none 0 0):=(blk_cell BK970.out 0).trans rfl;have hcz44_1:w40.cell? ⟨gb970,1,none⟩=some (.int .i64 0):=(blk_cell BK970.out 1).trans rfl;have hcz44_2:w40.cell? ⟨gb970,2,none⟩=some (.string (⟨#[]⟩:ByteArray)):=(blk_cell BK970.out 2).trans rfl;have hcz44_3:w40.cell? ⟨gb970,3,none⟩=some (.int .i64 0):=(blk_cell BK970.out 3).trans rfl;have hfz44_0:=blk_frozen BK970.out 0;have hfz44_1:=blk_frozen BK970.out 1;have hfz44_2:=blk_frozen BK970.out 2;have hfz44_3:=blk_frozen BK970.out 3;have hcz45_0:w40.cell? ⟨gb956,0,none⟩=some (.slice none 0 0):=(blk_cell BK956.out 0).trans rfl;have hcz45_1:w40.cell? ⟨gb956,1,none⟩=some (.int .i64 0):=(blk_cell BK956.out 1).trans rfl;have hcz45_2:w40.cell? ⟨gb956,2,none⟩=some (.string (⟨#[]⟩:ByteArray)):=(blk_cell BK956.out 2).trans rfl;have hcz45_3:w40.cell? ⟨gb956,3,none⟩=some (.int .i64 0):=(blk_cell BK956.out 3).trans rfl;have hfz45_0:=blk_frozen BK956.out 0;have hfz45_1:=blk_frozen BK956.out 1;have hfz45_2:=blk_frozen BK956.out 2;have hfz45_3:=blk_frozen BK956.out 3))
          refine bodyPost_ret (results_ctt rfl _ _ gb956 36 #[.slice Ao41 t960.length co41,.int .i64 t963,.string t964,.int .i64 t965] (0,0) _ rfl (by (with_reducible repeat (first|apply bN|apply bd|apply bA));refine blk_put (cs:= #[.slice Ao41 t960.length co41,.int .i64 t963,.string t964,.int .i64 0]) ?_ 3 _ rfl;(with_reducible repeat (first|apply bN|apply bd|apply bA));refine blk_put (cs:= #[.slice Ao41 t960.length co41,.int .i64 t963,.string (⟨#[]⟩:ByteArray),.int .i64 0]) ?_ 2 _ rfl;(with_reducible repeat (first|apply bN|apply bd|apply bA));refine blk_put (cs:= #[.slice Ao41 t960.length co41,.int .i64 0,.string (⟨#[]⟩:ByteArray),.int .i64 0]) ?_ 1 _ rfl;(with_reducible repeat (first|apply bN|apply bd|apply bA));refine blk_put (cs:= #[.slice none 0 0,.int .i64 0,.string (⟨#[]⟩:ByteArray),.int .i64 0]) ?_ 0 _ rfl;(with_reducible repeat (first|apply bN|apply bd|apply bA));refine blk_far ?_ NB956_970.out _;(with_reducible repeat (first|apply bN|apply bd|apply bA));refine blk_far ?_ NB956_970.out _;(with_reducible repeat (first|apply bN|apply bd|apply bA));refine blk_far ?_ NB956_970.out _;(with_reducible repeat (first|apply bN|apply bd|apply bA));refine blk_far ?_ NB956_970.out _;(with_reducible repeat (first|apply bN|apply bd|apply bA));exact BK956.out) Try.underlying36 rfl (by kernel_rfl)) rfl ?_
          exact ⟨_,_,by first|rfl|(simp [errW_none,errW_some] <;> rfl)|(simp [*,errW_none,errW_some] <;> rfl),by (with_reducible repeat (first|apply Kd.R_alloc|apply Kd.R_drewN|apply Kd.R_drew));exact Kd.R_mono (Kd.R_far (p:=⟨gb956,3,none⟩) (Kd.R_far (p:=⟨gb956,2,none⟩) (Kd.R_far (p:=⟨gb956,1,none⟩) (Kd.R_far (p:=⟨gb956,0,none⟩) (Kd.R_far (p:=⟨gb970,3,none⟩) (Kd.R_far (p:=⟨gb970,2,none⟩) (Kd.R_far (p:=⟨gb970,1,none⟩) (Kd.R_far (p:=⟨gb970,0,none⟩) (Kd.R_types (Kd.R_types HO962.out BK970.out (by decide)) BK956.out (by decide)) (fun _ hk=> hk.1.2) (.slice Ao41 t960.length co41)) (fun _ hk=> hk.1.2) (.int .i64 t963)) (fun _ hk=> hk.1.2) (.string t964)) (fun _ hk=> hk.1.2) (.int .i64 t965)) (fun _ hk=> hk.2) (.slice Ao41 t960.length co41)) (fun _ hk=> hk.2) (.int .i64 t963)) (fun _ hk=> hk.2) (.string t964)) (fun _ hk=> hk.2) (.int .i64 t965)) (fun _ hk=> trivial),by first|exact Kd.R_nil _ _ _ _ _|exact Kd.N_nil _ _ _ _ _|exact Kd.V_nil _ _ _ _ _|exact Kd.Q_nil _ _ _ _ _|exact Kd.S_nil _ _ _ _ _,by repeat (first|(with_reducible first|exact HB.out|apply bwA|apply bwN|apply bwD|refine bwS ?_ GE955.out|refine bwS ?_ GE956.out|refine bwS ?_ GE970.out)|exact HB.out)⟩
      · replace c9:=Bool.eq_false_iff.mpr c9
        subst c9
        have H1:(some (([]:List (S79)),0,(⟨#[]⟩:ByteArray),0,([]:List Int),4))=some (r1,r2,r3,r4,r5,r6):=by rw [if_neg (show ¬ (false=true) by decide)] at H;exact H
        clear H
        have H:=H1
        clear H1
        simp only [Option.some.injEq,Prod.mk.injEq] at H
        obtain ⟨rfl,rfl,rfl,rfl,rfl,rfl⟩:=H
        go_enter Try.func76,Try.ntmps76
        go_wp2_with (first|((with_reducible refine gate_dst (N:=3) rfl ?_);refine box_event ?hg (N:=3) ?hd (cs:= #[.slice A0_0 l0_0.length c0_0,.int .i64 a0_1,.string a0_2,.int .i64 a0_3]) (t:=36) ?hr ?_;(case hd=> rfl);(case hg=> rfl);(case hr=> first|(go_simp;done)|(go_simp;rfl));intro gb955 hg w46 hbox hb;have n0_:=Aside0.mk (below_step (by repeat (first|(with_reducible first|exact HB.out|apply bwA|apply bwN|apply bwD)|exact HB.out)) hb);have n1_:=Aside0.mk (hbox);have n2_:=Aside0.mk ((by rw [hg];exact (below_size (by repeat (first|(with_reducible first|exact HB.out|apply bwA|apply bwN|apply bwD)|exact HB.out))):w.heap.size ≤ gb955));have n3_:=Aside0.mk ((by rw [hg];exact (below_size (by repeat (first|(with_reducible first|exact HB.out|apply bwA|apply bwN|apply bwD)|exact HB.out))):w.heap.size ≤ gb955));clear HB;have HB:=n0_;have BK955:=n1_;have GW955:=n2_;have GE955:=n3_;clear n0_ n1_ n2_ n3_;clear hb hbox hg)|((with_reducible refine gate_dst (N:=6) rfl ?_);refine box_event ?hg (N:=6) ?hd (cs:= #[.slice none 0 0,.int .i64 0,.string (⟨#[]⟩:ByteArray),.int .i64 0]) (t:=36) ?hr ?_;(case hd=> rfl);(case hg=> rfl);(case hr=> first|(go_simp;done)|(go_simp;rfl));intro gb956 hg w47 hbox hb;have n0_:=Aside0.mk (blk_below (g:=gb955) (o:= .cells #[.slice A0_0 l0_0.length c0_0,.int .i64 a0_1,.string a0_2,.int .i64 a0_3] 36 (0,0)) (by (with_reducible repeat (first|apply bN|apply bd|apply bA));exact BK955.out) hb);have n1_:=Aside0.mk (below_step (by repeat (first|(with_reducible first|exact HB.out|apply bwA|apply bwN|apply bwD|refine bwS ?_ GE955.out)|exact HB.out)) hb);have n2_:=Aside0.mk (hbox);have n3_:=Aside0.mk ((by rw [hg];exact (below_size (by repeat (first|(with_reducible first|exact HB.out|apply bwA|apply bwN|apply bwD|refine bwS ?_ GE955.out)|exact HB.out))):w.heap.size ≤ gb956));have n4_:=Aside0.mk ((by rw [hg];exact (below_size (by repeat (first|(with_reducible first|exact HB.out|apply bwA|apply bwN|apply bwD|refine bwS ?_ GE955.out)|exact HB.out))):w.heap.size ≤ gb956));have n5_:=Aside0.mk ((by rw [hg];exact Nat.ne_of_lt (blk_lt (g:=gb955) (o:= .cells #[.slice A0_0 l0_0.length c0_0,.int .i64 a0_1,.string a0_2,.int .i64 a0_3] 36 (0,0)) (by (with_reducible repeat (first|apply bN|apply bd|apply bA));exact BK955.out)):gb955 ≠ gb956));have n6_:=Aside0.mk ((by rw [hg];exact Nat.ne_of_gt (blk_lt (g:=gb955) (o:= .cells #[.slice A0_0 l0_0.length c0_0,.int .i64 a0_1,.string a0_2,.int .i64 a0_3] 36 (0,0)) (by (with_reducible repeat (first|apply bN|apply bd|apply bA));exact BK955.out)):gb956 ≠ gb955));clear BK955;clear HB;have BK955:=n0_;have HB:=n1_;have BK956:=n2_;have GW956:=n3_;have GE956:=n4_;have NB955_956:=n5_;have NB956_955:=n6_;clear n0_ n1_ n2_ n3_ n4_ n5_ n6_;clear hb hbox hg;have hnb48:=NB955_956.out;have hnc48:=NB956_955.out;have hcz49_0:w47.cell? ⟨gb955,0,none⟩=some (.slice A0_0 l0_0.length c0_0):=(blk_cell BK955.out 0).trans rfl;have hcz49_1:w47.cell? ⟨gb955,1,none⟩=some (.int .i64 a0_1):=(blk_cell BK955.out 1).trans rfl;have hcz49_2:w47.cell? ⟨gb955,2,none⟩=some (.string a0_2):=(blk_cell BK955.out 2).trans rfl;have hcz49_3:w47.cell? ⟨gb955,3,none⟩=some (.int .i64 a0_3):=(blk_cell BK955.out 3).trans rfl;have hfz49_0:=blk_frozen BK955.out 0;have hfz49_1:=blk_frozen BK955.out 1;have hfz49_2:=blk_frozen BK955.out 2;have hfz49_3:=blk_frozen BK955.out 3)|((with_reducible refine gate_callee (f:=116) rfl ?_);refine goesL_ (some 14) rfl rfl Try.func116 (by kernel_rfl) rfl #[.agg #[.slice A0_0 l0_0.length c0_0,.int .i64 a0_1,.string a0_2,.int .i64 a0_3]] rfl (by (try simp only [List.map_toArray,List.map_cons,List.map_nil]);first|done|rfl|(simp only [List.length_drop,List.length_take];rfl)) ?_;(with_reducible refine (impl_SourceOK.calls _ _ l0_0 a0_1 a0_2 a0_3 true _ ?side1 ?side2 A4.out).mono ?_);(case side1=> repeat (first|exact (Kd.C_below HR0_0.out HB.out)|(with_reducible refine Kd.C_alloc ?_ _)|(with_reducible refine Kd.C_drewN ?_ _)|(with_reducible refine Kd.C_drew ?_)));(case side2=> exact HC0_0.out);rintro e w50 ⟨rfl,hb⟩;refine ⟨_,rfl,?_⟩;have n0_:=Aside0.mk (blk_below (g:=gb955) (o:= .cells #[.slice A0_0 l0_0.length c0_0,.int .i64 a0_1,.string a0_2,.int .i64 a0_3] 36 (0,0)) (by (with_reducible repeat (first|apply bN|apply bd|apply bA));exact BK955.out) hb);have n1_:=Aside0.mk (blk_below (g:=gb956) (o:= .cells #[.slice none 0 0,.int .i64 0,.string (⟨#[]⟩:ByteArray),.int .i64 0] 36 (0,0)) (by (with_reducible repeat (first|apply bN|apply bd|apply bA));exact BK956.out) hb);have n2_:=Aside0.mk (below_step (by repeat (first|(with_reducible first|exact HB.out|apply bwA|apply bwN|apply bwD|refine bwS ?_ GE955.out|refine bwS ?_ GE956.out)|exact HB.out)) hb);clear BK955;clear BK956;clear HB;have BK955:=n0_;have BK956:=n1_;have HB:=n2_;clear n0_ n1_ n2_;(try clear hb);(try clear hb2);(try clear hk);(try clear hi))|((with_reducible refine gate_callee (f:=95) rfl ?_);refine goesL_ (some 19) rfl rfl Try.func95 (by kernel_rfl) rfl #[.int .i64 a1,.int .i64 0,.int .i64 100] rfl (by (try simp only [List.map_toArray,List.map_cons,List.map_nil]);first|done|rfl|(simp only [List.length_drop,List.length_take];rfl)) ?_;(with_reducible refine (impl_in.calls a1 0 100 true _ A6.out).mono ?_);rintro e w' ⟨rfl,⟨nd,rfl⟩⟩;refine ⟨_,rfl,?_⟩;(try (rw [drewN_self w50];generalize hq_:World.drewN w50 _=w50;have n0_:Aside0 (w50.heap[gb955]?=some (.cells #[.slice A0_0 l0_0.length c0_0,.int .i64 a0_1,.string a0_2,.int .i64 a0_3] 36 (0,0))):=⟨by rw [← hq_];exact (by (with_reducible repeat (first|apply bN|apply bd|apply bA));exact BK955.out)⟩;have n1_:Aside0 (w50.heap[gb956]?=some (.cells #[.slice none 0 0,.int .i64 0,.string (⟨#[]⟩:ByteArray),.int .i64 0] 36 (0,0))):=⟨by rw [← hq_];exact (by (with_reducible repeat (first|apply bN|apply bd|apply bA));exact BK956.out)⟩;have n2_:Aside0 (Below w.heap.size w w50):=⟨by rw [← hq_];exact (by repeat (first|(with_reducible first|exact HB.out|apply bwA|apply bwN|apply bwD|refine bwS ?_ GE955.out|refine bwS ?_ GE956.out)|exact HB.out))⟩;clear BK955 BK956 HB hq_;have BK955:=n0_;have BK956:=n1_;have HB:=n2_;clear n0_ n1_ n2_)))|(go_at_call 95;(with_reducible refine (impl_in.calls a2 1 65536 false _ A8.out).mono ?_);rintro e w' ⟨rfl,⟨nd,rfl⟩⟩;(try (rw [drewN_self w50];generalize hq_:World.drewN w50 _=w50;have n0_:Aside0 (w50.heap[gb955]?=some (.cells #[.slice A0_0 l0_0.length c0_0,.int .i64 a0_1,.string a0_2,.int .i64 a0_3] 36 (0,0))):=⟨by rw [← hq_];exact (by (with_reducible repeat (first|apply bN|apply bd|apply bA));exact BK955.out)⟩;have n1_:Aside0 (w50.heap[gb956]?=some (.cells #[.slice none 0 0,.int .i64 0,.string (⟨#[]⟩:ByteArray),.int .i64 0] 36 (0,0))):=⟨by rw [← hq_];exact (by (with_reducible repeat (first|apply bN|apply bd|apply bA));exact BK956.out)⟩;have n2_:Aside0 (Below w.heap.size w w50):=⟨by rw [← hq_];exact (by repeat (first|(with_reducible first|exact HB.out|apply bwA|apply bwN|apply bwD|refine bwS ?_ GE955.out|refine bwS ?_ GE956.out)|exact HB.out))⟩;clear BK955 BK956 HB hq_;have BK955:=n0_;have BK956:=n1_;have HB:=n2_;clear n0_ n1_ n2_));have hcz51_0:w50.cell? ⟨gb956,0,none⟩=some (.slice none 0 0):=(blk_cell BK956.out 0).trans rfl;have hcz51_1:w50.cell? ⟨gb956,1,none⟩=some (.int .i64 0):=(blk_cell BK956.out 1).trans rfl;have hcz51_2:w50.cell? ⟨gb956,2,none⟩=some (.string (⟨#[]⟩:ByteArray)):=(blk_cell BK956.out 2).trans rfl;have hcz51_3:w50.cell? ⟨gb956,3,none⟩=some (.int .i64 0):=(blk_cell BK956.out 3).trans rfl;have hfz51_0:=blk_frozen BK956.out 0;have hfz51_1:=blk_frozen BK956.out 1;have hfz51_2:=blk_frozen BK956.out 2;have hfz51_3:=blk_frozen BK956.out 3))
        refine bodyPost_ret (results_ctt rfl _ _ gb956 36 #[.slice none 0 0,.int .i64 0,.string (⟨#[]⟩:ByteArray),.int .i64 0] (0,0) _ rfl (by (with_reducible repeat (first|apply bN|apply bd|apply bA));refine blk_put (cs:= #[.slice none 0 0,.int .i64 0,.string (⟨#[]⟩:ByteArray),.int .i64 0]) ?_ 3 _ rfl;(with_reducible repeat (first|apply bN|apply bd|apply bA));refine blk_put (cs:= #[.slice none 0 0,.int .i64 0,.string (⟨#[]⟩:ByteArray),.int .i64 0]) ?_ 2 _ rfl;(with_reducible repeat (first|apply bN|apply bd|apply bA));refine blk_put (cs:= #[.slice none 0 0,.int .i64 0,.string (⟨#[]⟩:ByteArray),.int .i64 0]) ?_ 1 _ rfl;(with_reducible repeat (first|apply bN|apply bd|apply bA));refine blk_put (cs:= #[.slice none 0 0,.int .i64 0,.string (⟨#[]⟩:ByteArray),.int .i64 0]) ?_ 0 _ rfl;(with_reducible repeat (first|apply bN|apply bd|apply bA));exact BK956.out) Try.underlying36 rfl (by kernel_rfl)) rfl ?_
        exact ⟨_,_,by first|rfl|(simp [errW_none,errW_some] <;> rfl)|(simp [*,errW_none,errW_some] <;> rfl),by first|exact Kd.R_nil _ _ _ _ _|exact Kd.N_nil _ _ _ _ _|exact Kd.V_nil _ _ _ _ _|exact Kd.Q_nil _ _ _ _ _|exact Kd.S_nil _ _ _ _ _,by first|exact Kd.R_nil _ _ _ _ _|exact Kd.N_nil _ _ _ _ _|exact Kd.V_nil _ _ _ _ _|exact Kd.Q_nil _ _ _ _ _|exact Kd.S_nil _ _ _ _ _,by repeat (first|(with_reducible first|exact HB.out|apply bwA|apply bwN|apply bwD|refine bwS ?_ GE955.out|refine bwS ?_ GE956.out)|exact HB.out)⟩
    · replace c7:=Bool.eq_false_iff.mpr c7
      subst c7
      have H1:(some (([]:List (S79)),0,(⟨#[]⟩:ByteArray),0,([]:List Int),4))=some (r1,r2,r3,r4,r5,r6):=by rw [if_neg (show ¬ (false=true) by decide)] at H;exact H
      clear H
      have H:=H1
      clear H1
      simp only [Option.some.injEq,Prod.mk.injEq] at H
      obtain ⟨rfl,rfl,rfl,rfl,rfl,rfl⟩:=H
      go_enter Try.func76,Try.ntmps76
      go_wp2_with (first|((with_reducible refine gate_dst (N:=3) rfl ?_);refine box_event ?hg (N:=3) ?hd (cs:= #[.slice A0_0 l0_0.length c0_0,.int .i64 a0_1,.string a0_2,.int .i64 a0_3]) (t:=36) ?hr ?_;(case hd=> rfl);(case hg=> rfl);(case hr=> first|(go_simp;done)|(go_simp;rfl));intro gb955 hg w52 hbox hb;have n0_:=Aside0.mk (below_step (by repeat (first|(with_reducible first|exact HB.out|apply bwA|apply bwN|apply bwD)|exact HB.out)) hb);have n1_:=Aside0.mk (hbox);have n2_:=Aside0.mk ((by rw [hg];exact (below_size (by repeat (first|(with_reducible first|exact HB.out|apply bwA|apply bwN|apply bwD)|exact HB.out))):w.heap.size ≤ gb955));have n3_:=Aside0.mk ((by rw [hg];exact (below_size (by repeat (first|(with_reducible first|exact HB.out|apply bwA|apply bwN|apply bwD)|exact HB.out))):w.heap.size ≤ gb955));clear HB;have HB:=n0_;have BK955:=n1_;have GW955:=n2_;have GE955:=n3_;clear n0_ n1_ n2_ n3_;clear hb hbox hg)|((with_reducible refine gate_dst (N:=6) rfl ?_);refine box_event ?hg (N:=6) ?hd (cs:= #[.slice none 0 0,.int .i64 0,.string (⟨#[]⟩:ByteArray),.int .i64 0]) (t:=36) ?hr ?_;(case hd=> rfl);(case hg=> rfl);(case hr=> first|(go_simp;done)|(go_simp;rfl));intro gb956 hg w53 hbox hb;have n0_:=Aside0.mk (blk_below (g:=gb955) (o:= .cells #[.slice A0_0 l0_0.length c0_0,.int .i64 a0_1,.string a0_2,.int .i64 a0_3] 36 (0,0)) (by (with_reducible repeat (first|apply bN|apply bd|apply bA));exact BK955.out) hb);have n1_:=Aside0.mk (below_step (by repeat (first|(with_reducible first|exact HB.out|apply bwA|apply bwN|apply bwD|refine bwS ?_ GE955.out)|exact HB.out)) hb);have n2_:=Aside0.mk (hbox);have n3_:=Aside0.mk ((by rw [hg];exact (below_size (by repeat (first|(with_reducible first|exact HB.out|apply bwA|apply bwN|apply bwD|refine bwS ?_ GE955.out)|exact HB.out))):w.heap.size ≤ gb956));have n4_:=Aside0.mk ((by rw [hg];exact (below_size (by repeat (first|(with_reducible first|exact HB.out|apply bwA|apply bwN|apply bwD|refine bwS ?_ GE955.out)|exact HB.out))):w.heap.size ≤ gb956));have n5_:=Aside0.mk ((by rw [hg];exact Nat.ne_of_lt (blk_lt (g:=gb955) (o:= .cells #[.slice A0_0 l0_0.length c0_0,.int .i64 a0_1,.string a0_2,.int .i64 a0_3] 36 (0,0)) (by (with_reducible repeat (first|apply bN|apply bd|apply bA));exact BK955.out)):gb955 ≠ gb956));have n6_:=Aside0.mk ((by rw [hg];exact Nat.ne_of_gt (blk_lt (g:=gb955) (o:= .cells #[.slice A0_0 l0_0.length c0_0,.int .i64 a0_1,.string a0_2,.int .i64 a0_3] 36 (0,0)) (by (with_reducible repeat (first|apply bN|apply bd|apply bA));exact BK955.out)):gb956 ≠ gb955));clear BK955;clear HB;have BK955:=n0_;have HB:=n1_;have BK956:=n2_;have GW956:=n3_;have GE956:=n4_;have NB955_956:=n5_;have NB956_955:=n6_;clear n0_ n1_ n2_ n3_ n4_ n5_ n6_;clear hb hbox hg;have hnb54:=NB955_956.out;have hnc54:=NB956_955.out;have hcz55_0:w53.cell? ⟨gb955,0,none⟩=some (.slice A0_0 l0_0.length c0_0):=(blk_cell BK955.out 0).trans rfl;have hcz55_1:w53.cell? ⟨gb955,1,none⟩=some (.int .i64 a0_1):=(blk_cell BK955.out 1).trans rfl;have hcz55_2:w53.cell? ⟨gb955,2,none⟩=some (.string a0_2):=(blk_cell BK955.out 2).trans rfl;have hcz55_3:w53.cell? ⟨gb955,3,none⟩=some (.int .i64 a0_3):=(blk_cell BK955.out 3).trans rfl;have hfz55_0:=blk_frozen BK955.out 0;have hfz55_1:=blk_frozen BK955.out 1;have hfz55_2:=blk_frozen BK955.out 2;have hfz55_3:=blk_frozen BK955.out 3)|((with_reducible refine gate_callee (f:=116) rfl ?_);refine goesL_ (some 14) rfl rfl Try.func116 (by kernel_rfl) rfl #[.agg #[.slice A0_0 l0_0.length c0_0,.int .i64 a0_1,.string a0_2,.int .i64 a0_3]] rfl (by (try simp only [List.map_toArray,List.map_cons,List.map_nil]);first|done|rfl|(simp only [List.length_drop,List.length_take];rfl)) ?_;(with_reducible refine (impl_SourceOK.calls _ _ l0_0 a0_1 a0_2 a0_3 true _ ?side1 ?side2 A4.out).mono ?_);(case side1=> repeat (first|exact (Kd.C_below HR0_0.out HB.out)|(with_reducible refine Kd.C_alloc ?_ _)|(with_reducible refine Kd.C_drewN ?_ _)|(with_reducible refine Kd.C_drew ?_)));(case side2=> exact HC0_0.out);rintro e w56 ⟨rfl,hb⟩;refine ⟨_,rfl,?_⟩;have n0_:=Aside0.mk (blk_below (g:=gb955) (o:= .cells #[.slice A0_0 l0_0.length c0_0,.int .i64 a0_1,.string a0_2,.int .i64 a0_3] 36 (0,0)) (by (with_reducible repeat (first|apply bN|apply bd|apply bA));exact BK955.out) hb);have n1_:=Aside0.mk (blk_below (g:=gb956) (o:= .cells #[.slice none 0 0,.int .i64 0,.string (⟨#[]⟩:ByteArray),.int .i64 0] 36 (0,0)) (by (with_reducible repeat (first|apply bN|apply bd|apply bA));exact BK956.out) hb);have n2_:=Aside0.mk (below_step (by repeat (first|(with_reducible first|exact HB.out|apply bwA|apply bwN|apply bwD|refine bwS ?_ GE955.out|refine bwS ?_ GE956.out)|exact HB.out)) hb);clear BK955;clear BK956;clear HB;have BK955:=n0_;have BK956:=n1_;have HB:=n2_;clear n0_ n1_ n2_;(try clear hb);(try clear hb2);(try clear hk);(try clear hi))|((with_reducible refine gate_callee (f:=95) rfl ?_);refine goesL_ (some 19) rfl rfl Try.func95 (by kernel_rfl) rfl #[.int .i64 a1,.int .i64 0,.int .i64 100] rfl (by (try simp only [List.map_toArray,List.map_cons,List.map_nil]);first|done|rfl|(simp only [List.length_drop,List.length_take];rfl)) ?_;(with_reducible refine (impl_in.calls a1 0 100 false _ A6.out).mono ?_);rintro e w' ⟨rfl,⟨nd,rfl⟩⟩;refine ⟨_,rfl,?_⟩;(try (rw [drewN_self w56];generalize hq_:World.drewN w56 _=w56;have n0_:Aside0 (w56.heap[gb955]?=some (.cells #[.slice A0_0 l0_0.length c0_0,.int .i64 a0_1,.string a0_2,.int .i64 a0_3] 36 (0,0))):=⟨by rw [← hq_];exact (by (with_reducible repeat (first|apply bN|apply bd|apply bA));exact BK955.out)⟩;have n1_:Aside0 (w56.heap[gb956]?=some (.cells #[.slice none 0 0,.int .i64 0,.string (⟨#[]⟩:ByteArray),.int .i64 0] 36 (0,0))):=⟨by rw [← hq_];exact (by (with_reducible repeat (first|apply bN|apply bd|apply bA));exact BK956.out)⟩;have n2_:Aside0 (Below w.heap.size w w56):=⟨by rw [← hq_];exact (by repeat (first|(with_reducible first|exact HB.out|apply bwA|apply bwN|apply bwD|refine bwS ?_ GE955.out|refine bwS ?_ GE956.out)|exact HB.out))⟩;clear BK955 BK956 HB hq_;have BK955:=n0_;have BK956:=n1_;have HB:=n2_;clear n0_ n1_ n2_));have hcz57_0:w56.cell? ⟨gb956,0,none⟩=some (.slice none 0 0):=(blk_cell BK956.out 0).trans rfl;have hcz57_1:w56.cell? ⟨gb956,1,none⟩=some (.int .i64 0):=(blk_cell BK956.out 1).trans rfl;have hcz57_2:w56.cell? ⟨gb956,2,none⟩=some (.string (⟨#[]⟩:ByteArray)):=(blk_cell BK956.out 2).trans rfl;have hcz57_3:w56.cell? ⟨gb956,3,none⟩=some (.int .i64 0):=(blk_cell BK956.out 3).trans rfl;have hfz57_0:=blk_frozen BK956.out 0;have hfz57_1:=blk_frozen BK956.out 1;have hfz57_2:=blk_frozen BK956.out 2;have hfz57_3:=blk_frozen BK956.out 3))
      refine bodyPost_ret (results_ctt rfl _ _ gb956 36 #[.slice none 0 0,.int .i64 0,.string (⟨#[]⟩:ByteArray),.int .i64 0] (0,0) _ rfl (by (with_reducible repeat (first|apply bN|apply bd|apply bA));refine blk_put (cs:= #[.slice none 0 0,.int .i64 0,.string (⟨#[]⟩:ByteArray),.int .i64 0]) ?_ 3 _ rfl;(with_reducible repeat (first|apply bN|apply bd|apply bA));refine blk_put (cs:= #[.slice none 0 0,.int .i64 0,.string (⟨#[]⟩:ByteArray),.int .i64 0]) ?_ 2 _ rfl;(with_reducible repeat (first|apply bN|apply bd|apply bA));refine blk_put (cs:= #[.slice none 0 0,.int .i64 0,.string (⟨#[]⟩:ByteArray),.int .i64 0]) ?_ 1 _ rfl;(with_reducible repeat (first|apply bN|apply bd|apply bA));refine blk_put (cs:= #[.slice none 0 0,.int .i64 0,.string (⟨#[]⟩:ByteArray),.int .i64 0]) ?_ 0 _ rfl;(with_reducible repeat (first|apply bN|apply bd|apply bA));exact BK956.out) Try.underlying36 rfl (by kernel_rfl)) rfl ?_
      exact ⟨_,_,by first|rfl|(simp [errW_none,errW_some] <;> rfl)|(simp [*,errW_none,errW_some] <;> rfl),by first|exact Kd.R_nil _ _ _ _ _|exact Kd.N_nil _ _ _ _ _|exact Kd.V_nil _ _ _ _ _|exact Kd.Q_nil _ _ _ _ _|exact Kd.S_nil _ _ _ _ _,by first|exact Kd.R_nil _ _ _ _ _|exact Kd.N_nil _ _ _ _ _|exact Kd.V_nil _ _ _ _ _|exact Kd.Q_nil _ _ _ _ _|exact Kd.S_nil _ _ _ _ _,by repeat (first|(with_reducible first|exact HB.out|apply bwA|apply bwN|apply bwD|refine bwS ?_ GE955.out|refine bwS ?_ GE956.out)|exact HB.out)⟩
  · replace c5:=Bool.eq_false_iff.mpr c5
    subst c5
    have H1:(some (([]:List (S79)),0,(⟨#[]⟩:ByteArray),0,([]:List Int),1))=some (r1,r2,r3,r4,r5,r6):=by rw [if_neg (show ¬ (false=true) by decide)] at H;exact H
    clear H
    have H:=H1
    clear H1
    simp only [Option.some.injEq,Prod.mk.injEq] at H
    obtain ⟨rfl,rfl,rfl,rfl,rfl,rfl⟩:=H
    go_enter Try.func76,Try.ntmps76
    go_wp2_with (first|((with_reducible refine gate_dst (N:=3) rfl ?_);refine box_event ?hg (N:=3) ?hd (cs:= #[.slice A0_0 l0_0.length c0_0,.int .i64 a0_1,.string a0_2,.int .i64 a0_3]) (t:=36) ?hr ?_;(case hd=> rfl);(case hg=> rfl);(case hr=> first|(go_simp;done)|(go_simp;rfl));intro gb955 hg w58 hbox hb;have n0_:=Aside0.mk (below_step (by repeat (first|(with_reducible first|exact HB.out|apply bwA|apply bwN|apply bwD)|exact HB.out)) hb);have n1_:=Aside0.mk (hbox);have n2_:=Aside0.mk ((by rw [hg];exact (below_size (by repeat (first|(with_reducible first|exact HB.out|apply bwA|apply bwN|apply bwD)|exact HB.out))):w.heap.size ≤ gb955));have n3_:=Aside0.mk ((by rw [hg];exact (below_size (by repeat (first|(with_reducible first|exact HB.out|apply bwA|apply bwN|apply bwD)|exact HB.out))):w.heap.size ≤ gb955));clear HB;have HB:=n0_;have BK955:=n1_;have GW955:=n2_;have GE955:=n3_;clear n0_ n1_ n2_ n3_;clear hb hbox hg)|((with_reducible refine gate_dst (N:=6) rfl ?_);refine box_event ?hg (N:=6) ?hd (cs:= #[.slice none 0 0,.int .i64 0,.string (⟨#[]⟩:ByteArray),.int .i64 0]) (t:=36) ?hr ?_;(case hd=> rfl);(case hg=> rfl);(case hr=> first|(go_simp;done)|(go_simp;rfl));intro gb956 hg w59 hbox hb;have n0_:=Aside0.mk (blk_below (g:=gb955) (o:= .cells #[.slice A0_0 l0_0.length c0_0,.int .i64 a0_1,.string a0_2,.int .i64 a0_3] 36 (0,0)) (by (with_reducible repeat (first|apply bN|apply bd|apply bA));exact BK955.out) hb);have n1_:=Aside0.mk (below_step (by repeat (first|(with_reducible first|exact HB.out|apply bwA|apply bwN|apply bwD|refine bwS ?_ GE955.out)|exact HB.out)) hb);have n2_:=Aside0.mk (hbox);have n3_:=Aside0.mk ((by rw [hg];exact (below_size (by repeat (first|(with_reducible first|exact HB.out|apply bwA|apply bwN|apply bwD|refine bwS ?_ GE955.out)|exact HB.out))):w.heap.size ≤ gb956));have n4_:=Aside0.mk ((by rw [hg];exact (below_size (by repeat (first|(with_reducible first|exact HB.out|apply bwA|apply bwN|apply bwD|refine bwS ?_ GE955.out)|exact HB.out))):w.heap.size ≤ gb956));have n5_:=Aside0.mk ((by rw [hg];exact Nat.ne_of_lt (blk_lt (g:=gb955) (o:= .cells #[.slice A0_0 l0_0.length c0_0,.int .i64 a0_1,.string a0_2,.int .i64 a0_3] 36 (0,0)) (by (with_reducible repeat (first|apply bN|apply bd|apply bA));exact BK955.out)):gb955 ≠ gb956));have n6_:=Aside0.mk ((by rw [hg];exact Nat.ne_of_gt (blk_lt (g:=gb955) (o:= .cells #[.slice A0_0 l0_0.length c0_0,.int .i64 a0_1,.string a0_2,.int .i64 a0_3] 36 (0,0)) (by (with_reducible repeat (first|apply bN|apply bd|apply bA));exact BK955.out)):gb956 ≠ gb955));clear BK955;clear HB;have BK955:=n0_;have HB:=n1_;have BK956:=n2_;have GW956:=n3_;have GE956:=n4_;have NB955_956:=n5_;have NB956_955:=n6_;clear n0_ n1_ n2_ n3_ n4_ n5_ n6_;clear hb hbox hg;have hnb60:=NB955_956.out;have hnc60:=NB956_955.out;have hcz61_0:w59.cell? ⟨gb955,0,none⟩=some (.slice A0_0 l0_0.length c0_0):=(blk_cell BK955.out 0).trans rfl;have hcz61_1:w59.cell? ⟨gb955,1,none⟩=some (.int .i64 a0_1):=(blk_cell BK955.out 1).trans rfl;have hcz61_2:w59.cell? ⟨gb955,2,none⟩=some (.string a0_2):=(blk_cell BK955.out 2).trans rfl;have hcz61_3:w59.cell? ⟨gb955,3,none⟩=some (.int .i64 a0_3):=(blk_cell BK955.out 3).trans rfl;have hfz61_0:=blk_frozen BK955.out 0;have hfz61_1:=blk_frozen BK955.out 1;have hfz61_2:=blk_frozen BK955.out 2;have hfz61_3:=blk_frozen BK955.out 3)|((with_reducible refine gate_callee (f:=116) rfl ?_);refine goesL_ (some 14) rfl rfl Try.func116 (by kernel_rfl) rfl #[.agg #[.slice A0_0 l0_0.length c0_0,.int .i64 a0_1,.string a0_2,.int .i64 a0_3]] rfl (by (try simp only [List.map_toArray,List.map_cons,List.map_nil]);first|done|rfl|(simp only [List.length_drop,List.length_take];rfl)) ?_;(with_reducible refine (impl_SourceOK.calls _ _ l0_0 a0_1 a0_2 a0_3 false _ ?side1 ?side2 A4.out).mono ?_);(case side1=> repeat (first|exact (Kd.C_below HR0_0.out HB.out)|(with_reducible refine Kd.C_alloc ?_ _)|(with_reducible refine Kd.C_drewN ?_ _)|(with_reducible refine Kd.C_drew ?_)));(case side2=> exact HC0_0.out);rintro e w62 ⟨rfl,hb⟩;refine ⟨_,rfl,?_⟩;have n0_:=Aside0.mk (blk_below (g:=gb955) (o:= .cells #[.slice A0_0 l0_0.length c0_0,.int .i64 a0_1,.string a0_2,.int .i64 a0_3] 36 (0,0)) (by (with_reducible repeat (first|apply bN|apply bd|apply bA));exact BK955.out) hb);have n1_:=Aside0.mk (blk_below (g:=gb956) (o:= .cells #[.slice none 0 0,.int .i64 0,.string (⟨#[]⟩:ByteArray),.int .i64 0] 36 (0,0)) (by (with_reducible repeat (first|apply bN|apply bd|apply bA));exact BK956.out) hb);have n2_:=Aside0.mk (below_step (by repeat (first|(with_reducible first|exact HB.out|apply bwA|apply bwN|apply bwD|refine bwS ?_ GE955.out|refine bwS ?_ GE956.out)|exact HB.out)) hb);clear BK955;clear BK956;clear HB;have BK955:=n0_;have BK956:=n1_;have HB:=n2_;clear n0_ n1_ n2_;(try clear hb);(try clear hb2);(try clear hk);(try clear hi);have hcz63_0:w62.cell? ⟨gb956,0,none⟩=some (.slice none 0 0):=(blk_cell BK956.out 0).trans rfl;have hcz63_1:w62.cell? ⟨gb956,1,none⟩=some (.int .i64 0):=(blk_cell BK956.out 1).trans rfl;have hcz63_2:w62.cell? ⟨gb956,2,none⟩=some (.string (⟨#[]⟩:ByteArray)):=(blk_cell BK956.out 2).trans rfl;have hcz63_3:w62.cell? ⟨gb956,3,none⟩=some (.int .i64 0):=(blk_cell BK956.out 3).trans rfl;have hfz63_0:=blk_frozen BK956.out 0;have hfz63_1:=blk_frozen BK956.out 1;have hfz63_2:=blk_frozen BK956.out 2;have hfz63_3:=blk_frozen BK956.out 3))
    refine bodyPost_ret (results_ctt rfl _ _ gb956 36 #[.slice none 0 0,.int .i64 0,.string (⟨#[]⟩:ByteArray),.int .i64 0] (0,0) _ rfl (by (with_reducible repeat (first|apply bN|apply bd|apply bA));refine blk_put (cs:= #[.slice none 0 0,.int .i64 0,.string (⟨#[]⟩:ByteArray),.int .i64 0]) ?_ 3 _ rfl;(with_reducible repeat (first|apply bN|apply bd|apply bA));refine blk_put (cs:= #[.slice none 0 0,.int .i64 0,.string (⟨#[]⟩:ByteArray),.int .i64 0]) ?_ 2 _ rfl;(with_reducible repeat (first|apply bN|apply bd|apply bA));refine blk_put (cs:= #[.slice none 0 0,.int .i64 0,.string (⟨#[]⟩:ByteArray),.int .i64 0]) ?_ 1 _ rfl;(with_reducible repeat (first|apply bN|apply bd|apply bA));refine blk_put (cs:= #[.slice none 0 0,.int .i64 0,.string (⟨#[]⟩:ByteArray),.int .i64 0]) ?_ 0 _ rfl;(with_reducible repeat (first|apply bN|apply bd|apply bA));exact BK956.out) Try.underlying36 rfl (by kernel_rfl)) rfl ?_
    exact ⟨_,_,by first|rfl|(simp [errW_none,errW_some] <;> rfl)|(simp [*,errW_none,errW_some] <;> rfl),by first|exact Kd.R_nil _ _ _ _ _|exact Kd.N_nil _ _ _ _ _|exact Kd.V_nil _ _ _ _ _|exact Kd.Q_nil _ _ _ _ _|exact Kd.S_nil _ _ _ _ _,by first|exact Kd.R_nil _ _ _ _ _|exact Kd.N_nil _ _ _ _ _|exact Kd.V_nil _ _ _ _ _|exact Kd.Q_nil _ _ _ _ _|exact Kd.S_nil _ _ _ _ _,by repeat (first|(with_reducible first|exact HB.out|apply bwA|apply bwN|apply bwD|refine bwS ?_ GE955.out|refine bwS ?_ GE956.out)|exact HB.out)⟩
def laws_eqIntS.l0:Nat → List Int → List Int → Int → Option (Bool)
  |0,_,_,_=> none
  |k + 1,x0,x1,x5=> if x5 < (x0.length:Int) then (if 0 ≤ x5 then (if x5 < (x1.length:Int) then (if (rd x0 x5)=(rd x1 x5) then (laws_eqIntS.l0 k x0 x1 (wrap64 (x5 + 1))) else (some false)) else (none)) else (none)) else (some true)
def laws_eqIntS.f (k:Nat) (l0:List Int) (l1:List Int):Option (Bool):=if (l0.length:Int)=(l1.length:Int) then (laws_eqIntS.l0 k l0 l1 0) else (some false)
theorem laws_eqIntS.mono_l:∀ k,(∀ y0 y1 y2,LeO (laws_eqIntS.l0 k y0 y1 y2) (laws_eqIntS.l0 (k + 1) y0 y1 y2))
  |0=> fun _ _ _ r h=> by simp [laws_eqIntS.l0] at h
  |k + 1=> by
    have ih0:=laws_eqIntS.mono_l k
    · intro y0 y1 y2
      unfold laws_eqIntS.l0
      repeat' first
      |(with_reducible exact ih0 _ _ _)
      |(with_reducible exact LeO.refl _)
      |(with_reducible exact LeO.none _)
      |(with_reducible refine LeO.ite ?_ ?_)
      |(with_reducible refine LeO.bind ?_ (fun _=> ?_))
      |exact ih0 _ _ _
      |exact LeO.none _
      |refine LeO.ite ?_ ?_
      |refine LeO.bind ?_ (fun _=> ?_)
theorem laws_eqIntS.mono:∀ a0 a1 k,LeO (laws_eqIntS.f k a0 a1) (laws_eqIntS.f (k + 1) a0 a1):=by
  intro a0 a1 k
  have ih0:=laws_eqIntS.mono_l k
  unfold laws_eqIntS.f
  repeat' first
      |(with_reducible exact ih0 _ _ _)
      |(with_reducible exact LeO.refl _)
      |(with_reducible exact LeO.none _)
      |(with_reducible refine LeO.ite ?_ ?_)
      |(with_reducible refine LeO.bind ?_ (fun _=> ?_))
      |exact ih0 _ _ _
      |exact LeO.none _
      |refine LeO.ite ?_ ?_
      |refine LeO.bind ?_ (fun _=> ?_)
set_option maxHeartbeats 8000000 in
set_option maxRecDepth 100000 in
theorem laws_eqIntS.calls (k:Nat) (A0:Option Addr) (c0:Nat) (l0:List Int) (A1:Option Addr) (c1:Nat) (l1:List Int) (r:Bool) (w:World) (hr0:Kd.C (Kd.int .i64) w A0 l0.length l0) (hc0:l0.length ≤ c0) (hr1:Kd.C (Kd.int .i64) w A1 l1.length l1) (hc1:l1.length ≤ c1) (h:laws_eqIntS.f k l0 l1=some r):
    Calls Try.prog 77 #[.slice A0 l0.length c0,.slice A1 l1.length c1] w fun e w'=> e= .returned (.bool r) ∧ Drawn0 w w':=by
  have HR0:=Aside0.mk hr0
  have HC0:=Aside0.mk hc0
  clear hr0 hc0
  have HR1:=Aside0.mk hr1
  have HC1:=Aside0.mk hc1
  clear hr1 hc1
  have H:(if (l0.length:Int)=(l1.length:Int) then (laws_eqIntS.l0 k l0 l1 0) else (some false))=some r:=h
  clear h
  by_cases c3:(l0.length:Int)=(l1.length:Int)
  · rw [if_pos c3] at H
    have c3b0:((l0.length:Int)==(l1.length:Int))=true:=beq_iff_eq.mpr c3
    have c3b1:((l0.length:Int) !=(l1.length:Int))=false:=bne_eq_false_iff_eq.mpr c3
    have c3b2:(l0.length==l1.length)=true:=by first|simpa using c3|(simp at c3 ⊢;omega)
    clear c3
    have H':=Aside0.mk H
    clear H
    go_enter Try.func77,Try.ntmps77
    go_wp2
    repeat (go_quiet (fail);try go_wp2)
    go_loopg [5] k (fun kq v5 w'=> ∃ (x5_1:Int),v5= .int .i64 x5_1 ∧ Aside0 (laws_eqIntS.l0 kq l0 l1 x5_1=some r) ∧ Aside0 (kq ≤ k) ∧ Drawn0 w w')
    case atStart=> exact ⟨(0),(by first|rfl|(simp;done)|(simp [*];done)),H',⟨Nat.le_refl _⟩,by repeat (first|exact Drawn0.refl _|apply Drawn0.step)⟩
    case round=>
      clear H'
      try clear c1
      try clear p2
      try clear c3
      try clear c3b0
      try clear c3b1
      try clear c3b2
      obtain ⟨x5_1,rfl,HA,HK1,⟨m1,rfl⟩⟩:=hrel
      cases gk with
      |zero=> exact absurd HA.out (by simp [laws_eqIntS.l0])
      |succ k1=>
        have H:=HA.out
        clear HA
        simp only [laws_eqIntS.l0] at H
        by_cases c4:x5_1 < (l0.length:Int)
        · rw [if_pos c4] at H
          have c4b0:decide (x5_1 < (l0.length:Int))=true:=decide_eq_true c4
          clear c4
          by_cases c5:0 ≤ x5_1
          · rw [if_pos c5] at H
            have c5b0:decide (0 ≤ x5_1)=true:=decide_eq_true c5
            clear c5
            by_cases c6:x5_1 < (l1.length:Int)
            · rw [if_pos c6] at H
              have c6b0:decide (x5_1 < (l1.length:Int))=true:=decide_eq_true c6
              clear c6
              by_cases c7:(rd l0 x5_1)=(rd l1 x5_1)
              · rw [if_pos c7] at H
                have c7b0:((rd l0 x5_1)==(rd l1 x5_1))=true:=beq_iff_eq.mpr c7
                have c7b1:((rd l0 x5_1) !=(rd l1 x5_1))=false:=bne_eq_false_iff_eq.mpr c7
                clear c7
                have H':=Aside0.mk H
                clear H
                have p974:0 ≤ (x5_1:Int):=of_decide_eq_true (by first|(with_reducible assumption)|assumption)
                have q974:x5_1 < (l0.length:Int):=of_decide_eq_true (by first|(with_reducible assumption)|assumption)
                obtain ⟨ad974,e974,hx974_0⟩:=Kd.at_int HR0.out x5_1 p974 q974
                cases e974
                replace p974:=eq_true p974
                replace q974:=eq_true q974
                have p975:0 ≤ (x5_1:Int):=of_decide_eq_true (by first|(with_reducible assumption)|assumption)
                have q975:x5_1 < (l1.length:Int):=of_decide_eq_true (by first|(with_reducible assumption)|assumption)
                obtain ⟨ad975,e975,hx975_0⟩:=Kd.at_int HR1.out x5_1 p975 q975
                cases e975
                replace p975:=eq_true p975
                replace q975:=eq_true q975
                go_wp2
                repeat (go_quiet (fail);try go_wp2)
                go_roundg k1
                case measure=> have:=HK1.out;omega
                case rel=> exact ⟨(wrap64 (x5_1 + 1)),(by first|rfl|(simp;done)|(simp [*];done)),H',⟨by have:=HK1.out;omega⟩,by repeat (first|exact Drawn0.refl _|apply Drawn0.step)⟩
              · rw [if_neg c7] at H
                have c7b0:((rd l0 x5_1)==(rd l1 x5_1))=false:=beq_eq_false_iff_ne.mpr c7
                have c7b1:((rd l0 x5_1) !=(rd l1 x5_1))=true:=bne_iff_ne.mpr c7
                obtain rfl:=Option.some.inj H
                have p974:0 ≤ (x5_1:Int):=of_decide_eq_true (by first|(with_reducible assumption)|assumption)
                have q974:x5_1 < (l0.length:Int):=of_decide_eq_true (by first|(with_reducible assumption)|assumption)
                obtain ⟨ad974,e974,hx974_0⟩:=Kd.at_int HR0.out x5_1 p974 q974
                cases e974
                replace p974:=eq_true p974
                replace q974:=eq_true q974
                have p975:0 ≤ (x5_1:Int):=of_decide_eq_true (by first|(with_reducible assumption)|assumption)
                have q975:x5_1 < (l1.length:Int):=of_decide_eq_true (by first|(with_reducible assumption)|assumption)
                obtain ⟨ad975,e975,hx975_0⟩:=Kd.at_int HR1.out x5_1 p975 q975
                cases e975
                replace p975:=eq_true p975
                replace q975:=eq_true q975
                go_wp2
                repeat (go_quiet (fail);try go_wp2)
                go_ret
                exact ⟨by first|rfl|(simp;done)|(simp [*];done),by repeat (first|exact Drawn0.refl _|apply Drawn0.step)⟩
            · rw [if_neg c6] at H
              exact absurd H (by simp)
          · rw [if_neg c5] at H
            exact absurd H (by simp)
        · rw [if_neg c4] at H
          have c4b0:decide (x5_1 < (l0.length:Int))=false:=decide_eq_false c4
          clear c4
          obtain rfl:=Option.some.inj H
          go_wp2
          repeat (go_quiet (fail);try go_wp2)
          go_ret
          exact ⟨by first|rfl|(simp;done)|(simp [*];done),by repeat (first|exact Drawn0.refl _|apply Drawn0.step)⟩
  · rw [if_neg c3] at H
    have c3b0:((l0.length:Int)==(l1.length:Int))=false:=beq_eq_false_iff_ne.mpr c3
    have c3b1:((l0.length:Int) !=(l1.length:Int))=true:=bne_iff_ne.mpr c3
    have c3b2:(l0.length==l1.length)=false:=by first|simpa using c3|(simp at c3 ⊢;omega)
    obtain rfl:=Option.some.inj H
    go_enter Try.func77,Try.ntmps77
    go_wp2
    repeat (go_quiet (fail);try go_wp2)
    go_ret
    exact ⟨by first|rfl|(simp;done)|(simp [*];done),by repeat (first|exact Drawn0.refl _|apply Drawn0.step)⟩
end Go.Proofs.Ytlogocmojnhpbaa.Print
