-- Packed by a program of this session (slim.py) out of printed texts; not trusted, Lean checks it.
import Derived.Test.YtlogocmojnhpbaaP0
import Derived.Test.YtlogocmojnhpbaaK4
import Derived.Test.YtlogocmojnhpbaaQFnExactTakePlaces5
namespace Go.Proofs.Ytlogocmojnhpbaa.Print
open Go.RowKit Go.Proofs.YtlogocmojnhpbaaW.PrintWords Go.Proofs.YtlogocmojnhpbaaW.PrintLast Go.Proofs.YtlogocmojnhpbaaW.PrintMore
attribute [local go_sem] max2_int min2_int max_two min_two max_three min_three max_four min_four
set_option linter.unusedVariables false
set_option linter.unusedSimpArgs false
def spec_l05Draw.f (k:Nat) (l0_0:List (S79)) (a0_1:Int) (a0_2:ByteArray) (a0_3:Int):Option ((List (S79)) × Int × ByteArray × Int × Int × Int):=if (l0_0.length:Int) > 0 then (if (l0_0.length:Int)=0 then (none) else (if 0 ≤ (Int.tmod a0_1 (l0_0.length:Int)) then (if (Int.tmod a0_1 (l0_0.length:Int)) < (l0_0.length:Int) then (some (l0_0,wrap64 (a0_1 + 1),a0_2,a0_3,(rd_T79 l0_0 (Int.tmod a0_1 (l0_0.length:Int))).f0,(rd_T79 l0_0 (Int.tmod a0_1 (l0_0.length:Int))).f1)) else (none)) else (none))) else (if a0_2.size + 4 ≤ 9223372036854775807 then ((spec_l02Number.f k a0_3 4).bind fun t637=> (if (a0_2 ++ (⟨#[100,114,97,119]⟩:ByteArray)).size + (strOfNums t637).size ≤ 9223372036854775807 then ((spec_l03Hash.f ((a0_2 ++ (⟨#[100,114,97,119]⟩:ByteArray)) ++ (strOfNums t637))).bind fun t640=> (if 0 ≤ 8 then (if 8 ≤ (t640.size:Int) then ((spec_l05Field.f k (t640.extract 0 8)).bind fun t641=> (if 8 ≤ 16 then (if 16 ≤ (t640.size:Int) then ((spec_l05Field.f k (t640.extract 8 16)).bind fun t642=> (some (l0_0,a0_1,a0_2,wrap64 (a0_3 + 1),t641,t642))) else (none)) else (none))) else (none)) else (none))) else (none))) else (none))
theorem spec_l05Draw.mono:∀ a0 a1 a2 a3 k,LeO (spec_l05Draw.f k a0 a1 a2 a3) (spec_l05Draw.f (k + 1) a0 a1 a2 a3):=by
  intro a0 a1 a2 a3 k
  unfold spec_l05Draw.f
  repeat' first
      |(with_reducible exact spec_l02Number.mono _ _ _)
      |(with_reducible exact spec_l05Field.mono _ _)
      |(with_reducible exact LeO.refl _)
      |(with_reducible exact LeO.none _)
      |(with_reducible refine LeO.ite ?_ ?_)
      |(with_reducible refine LeO.bind ?_ (fun _=> ?_))
      |exact spec_l02Number.mono _ _ _
      |exact spec_l05Field.mono _ _
      |exact LeO.none _
      |refine LeO.ite ?_ ?_
      |refine LeO.bind ?_ (fun _=> ?_)
def spec_l05Draw.T2:Bool × List (List Nat × List Nat):=(true, [([], []),([0], [0]),([], []),([2], [2]),([], []),([4], [4]),([5], [5]),([3,6], [3,6]),([1,7], [1,7]),([8], [8]),([], []),([10,9,0,1,2,3,4,5,6,7,8,9,10], [9,10])])
def spec_l05Draw.B2:List Nat:= [0,1,0,4,0,16,48,124,255,511,0,2047]
theorem spec_l05Draw.tab2:rtab .any (opsOf Try.f132 2)=spec_l05Draw.T2:=by kernel_rfl
theorem spec_l05Draw.bits2:waitsOk spec_l05Draw.T2.2 spec_l05Draw.B2=true:=by kernel_rfl
def spec_l05Draw.T5:Bool × List (List Nat × List Nat):=(true, [([], []),([0], [0]),([1], [1]),([], []),([3], [3]),([4], [4]),([5], [5]),([2,6], [2,6]),([7,5], [7]),([8,8,0,1,2,3,4,5,6,7,8], [8])])
def spec_l05Draw.B5:List Nat:= [0,1,3,0,8,24,56,127,255,511]
theorem spec_l05Draw.tab5:rtab .any (opsOf Try.f132 5)=spec_l05Draw.T5:=by kernel_rfl
theorem spec_l05Draw.bits5:waitsOk spec_l05Draw.T5.2 spec_l05Draw.B5=true:=by kernel_rfl
def spec_l05Draw.T7:Bool × List (List Nat × List Nat):=(true, [([], []),([], []),([1], [1]),([2], [2]),([], []),([4], [4]),([5,3], [5]),([3,6], [3,6]),([0,6,0], [0]),([7,8,0,1,2,3,4,5,6,7,8], [7])])
def spec_l05Draw.B7:List Nat:= [0,0,2,6,0,16,62,126,127,511]
theorem spec_l05Draw.tab7:rtab .any (opsOf Try.f132 7)=spec_l05Draw.T7:=by kernel_rfl
theorem spec_l05Draw.bits7:waitsOk spec_l05Draw.T7.2 spec_l05Draw.B7=true:=by kernel_rfl
set_option maxHeartbeats 8000000 in
set_option maxRecDepth 100000 in
theorem spec_l05Draw.calls (k:Nat) (P0_0_:Nat → Prop) (u9000_:Value) (l0_0:List (S79)) (a0_1:Int) (a0_2:ByteArray) (a0_3:Int) (r1:List (S79)) (r2:Int) (r3:ByteArray) (r4:Int) (r5:Int) (r6:Int) (w0 w:World) (hB:Below w0.heap.size w0 w) (ho0_0:Kd.R k79 79 w w0.heap.size P0_0_ u9000_ l0_0) (h:spec_l05Draw.f k l0_0 a0_1 a0_2 a0_3=some (r1,r2,r3,r4,r5,r6)):
    Calls Try.prog 132 #[.agg #[u9000_,.int .i64 a0_1,.string a0_2,.int .i64 a0_3]] w fun e w'=> ∃ v0_:Value,e= .returned (.tuple #[.agg #[v0_,.int .i64 r2,.string r3,.int .i64 r4],.agg #[.int .i64 r5,.int .i64 r6]]) ∧ Kd.R k79 79 w' w0.heap.size (fun k_=> (P0_0_ k_ ∨ w.heap.size ≤ k_)) v0_ r1 ∧ Below w0.heap.size w0 w' ∧ Kept w w' (fun k_=> P0_0_ k_):=by
  have hu36:=Try.underlying36
  have hu79:=Try.underlying79
  have HO0_0:=Aside0.mk (show Kd.R k79 79 w w0.heap.size (fun k_=> (P0_0_ k_ ∨ w.heap.size ≤ k_)) u9000_ l0_0 from Kd.R_mono ho0_0 (fun k_ hk=> (.inl hk)))
  have HK:=Aside0.mk (Kept.refl w (fun k_=> P0_0_ k_))
  have HW0:=Aside0.mk hB.size
  have HB:=Aside0.mk hB
  clear hB
  have H:(if (l0_0.length:Int) > 0 then (if (l0_0.length:Int)=0 then (none) else (if 0 ≤ (Int.tmod a0_1 (l0_0.length:Int)) then (if (Int.tmod a0_1 (l0_0.length:Int)) < (l0_0.length:Int) then (some (l0_0,wrap64 (a0_1 + 1),a0_2,a0_3,(rd_T79 l0_0 (Int.tmod a0_1 (l0_0.length:Int))).f0,(rd_T79 l0_0 (Int.tmod a0_1 (l0_0.length:Int))).f1)) else (none)) else (none))) else (if a0_2.size + 4 ≤ 9223372036854775807 then ((spec_l02Number.f k a0_3 4).bind fun t637=> (if (a0_2 ++ (⟨#[100,114,97,119]⟩:ByteArray)).size + (strOfNums t637).size ≤ 9223372036854775807 then ((spec_l03Hash.f ((a0_2 ++ (⟨#[100,114,97,119]⟩:ByteArray)) ++ (strOfNums t637))).bind fun t640=> (if 0 ≤ 8 then (if 8 ≤ (t640.size:Int) then ((spec_l05Field.f k (t640.extract 0 8)).bind fun t641=> (if 8 ≤ 16 then (if 16 ≤ (t640.size:Int) then ((spec_l05Field.f k (t640.extract 8 16)).bind fun t642=> (some (l0_0,a0_1,a0_2,wrap64 (a0_3 + 1),t641,t642))) else (none)) else (none))) else (none)) else (none))) else (none))) else (none)))=some (r1,r2,r3,r4,r5,r6):=h
  clear h
  by_cases c2:(l0_0.length:Int) > 0
  · rw [if_pos c2] at H
    have c2b0:decide (0 < (l0_0.length:Int))=true:=decide_eq_true c2
    have c2b1:decide (0 < l0_0.length)=true:=decide_eq_true (by omega)
    clear c2
    by_cases c3:(l0_0.length:Int)=0
    · rw [if_pos c3] at H
      exact absurd H (by simp)
    · rw [if_neg c3] at H
      have c3b0:((l0_0.length:Int)==0)=false:=beq_eq_false_iff_ne.mpr c3
      have c3b1:((l0_0.length:Int) !=0)=true:=bne_iff_ne.mpr c3
      have c3b2:¬ (l0_0= []):=fun h_=> c3 (by rw [h_];rfl)
      obtain ⟨ji4,hji4⟩:∃ j_:Int,(Int.tmod a0_1 (l0_0.length:Int))=j_:=⟨_,rfl⟩
      replace H:(if 0 ≤ (ji4) then (if (ji4) < (l0_0.length:Int) then (some (l0_0,wrap64 (a0_1 + 1),a0_2,a0_3,(rd_T79 l0_0 (ji4)).f0,(rd_T79 l0_0 (ji4)).f1)) else (none)) else (none))=some (r1,r2,r3,r4,r5,r6):=by first|(rw [hji4] at H;exact H)|(simp only [hji4] at H ⊢;exact H)
      by_cases c5:0 ≤ (ji4)
      · rw [if_pos c5] at H
        have c5b0:decide (0 ≤ (ji4))=true:=decide_eq_true c5
        clear c5
        by_cases c6:(ji4) < (l0_0.length:Int)
        · rw [if_pos c6] at H
          have c6b0:decide ((ji4) < (l0_0.length:Int))=true:=decide_eq_true c6
          clear c6
          simp only [Option.some.injEq,Prod.mk.injEq] at H
          obtain ⟨rfl,rfl,rfl,rfl,rfl,rfl⟩:=H
          obtain ⟨Ao7,co7,eo7⟩:=Kd.R_slice HO0_0.out
          subst eo7
          go_enter Try.func132,Try.ntmps132
          try go_wp2_with (first|((with_reducible refine gate_dst (N:=1) rfl ?_);refine box_event ?hg (N:=1) ?hd (cs:= #[.slice Ao7 l0_0.length co7,.int .i64 a0_1,.string a0_2,.int .i64 a0_3]) (t:=36) ?hr ?_;(case hd=> rfl);(case hg=> rfl);(case hr=> first|(go_simp;done)|(go_simp;rfl));intro gb632 hg w8 hbox hb;have n0_:=Aside0.mk (Kd.R_below (by (with_reducible repeat (first|apply Kd.R_alloc|apply Kd.R_drewN|apply Kd.R_drew));exact HO0_0.out) hb);have n1_:=Aside0.mk (Kept.below (S:=(fun k_=> P0_0_ k_)) (by repeat (first|(with_reducible first|exact HK.out|apply Kept.alloc|apply Kept.drewN|apply Kept.drew)|exact HK.out)) hb);have n2_:=Aside0.mk (below_step (by repeat (first|(with_reducible first|exact HB.out|apply bwA|apply bwN|apply bwD)|exact HB.out)) hb);have n3_:=Aside0.mk (hbox);have n4_:=Aside0.mk ((by rw [hg];exact (by first|exact HK.out.1|exact (show Kept w _ (fun k_=> P0_0_ k_) from by repeat (first|(with_reducible first|exact HK.out|apply Kept.alloc|apply Kept.drewN|apply Kept.drew)|exact HK.out)).1):w.heap.size ≤ gb632));have n5_:=Aside0.mk ((by rw [hg];exact (below_size (by repeat (first|(with_reducible first|exact HB.out|apply bwA|apply bwN|apply bwD)|exact HB.out))):w0.heap.size ≤ gb632));clear HO0_0;clear HK;clear HB;have HO0_0:=n0_;have HK:=n1_;have HB:=n2_;have BK632:=n3_;have GW632:=n4_;have GE632:=n5_;clear n0_ n1_ n2_ n3_ n4_ n5_;clear hb hbox hg)|((with_reducible refine gate_dst (N:=2) rfl ?_);refine box_event ?hg (N:=2) ?hd (cs:= #[.slice none 0 0,.int .i64 0,.string (⟨#[]⟩:ByteArray),.int .i64 0]) (t:=36) ?hr ?_;(case hd=> rfl);(case hg=> rfl);(case hr=> first|(go_simp;done)|(go_simp;rfl));intro gb633 hg w9 hbox hb;have n0_:=Aside0.mk (Kd.R_below (by (with_reducible repeat (first|apply Kd.R_alloc|apply Kd.R_drewN|apply Kd.R_drew));exact HO0_0.out) hb);have n1_:=Aside0.mk (blk_below (g:=gb632) (o:= .cells #[.slice Ao7 l0_0.length co7,.int .i64 a0_1,.string a0_2,.int .i64 a0_3] 36 (0,0)) (by (with_reducible repeat (first|apply bN|apply bd|apply bA));exact BK632.out) hb);have n2_:=Aside0.mk (Kept.below (S:=(fun k_=> P0_0_ k_)) (by repeat (first|(with_reducible first|exact HK.out|apply Kept.alloc|apply Kept.drewN|apply Kept.drew|refine Kept.setCell ?_ (.inr GW632.out) _)|exact HK.out)) hb);have n3_:=Aside0.mk (below_step (by repeat (first|(with_reducible first|exact HB.out|apply bwA|apply bwN|apply bwD|refine bwS ?_ GE632.out)|exact HB.out)) hb);have n4_:=Aside0.mk (hbox);have n5_:=Aside0.mk ((by rw [hg];exact (by first|exact HK.out.1|exact (show Kept w _ (fun k_=> P0_0_ k_) from by repeat (first|(with_reducible first|exact HK.out|apply Kept.alloc|apply Kept.drewN|apply Kept.drew|refine Kept.setCell ?_ (.inr GW632.out) _)|exact HK.out)).1):w.heap.size ≤ gb633));have n6_:=Aside0.mk ((by rw [hg];exact (below_size (by repeat (first|(with_reducible first|exact HB.out|apply bwA|apply bwN|apply bwD|refine bwS ?_ GE632.out)|exact HB.out))):w0.heap.size ≤ gb633));have n7_:=Aside0.mk ((by rw [hg];exact Nat.ne_of_lt (blk_lt (g:=gb632) (o:= .cells #[.slice Ao7 l0_0.length co7,.int .i64 a0_1,.string a0_2,.int .i64 a0_3] 36 (0,0)) (by (with_reducible repeat (first|apply bN|apply bd|apply bA));exact BK632.out)):gb632 ≠ gb633));have n8_:=Aside0.mk ((by rw [hg];exact Nat.ne_of_gt (blk_lt (g:=gb632) (o:= .cells #[.slice Ao7 l0_0.length co7,.int .i64 a0_1,.string a0_2,.int .i64 a0_3] 36 (0,0)) (by (with_reducible repeat (first|apply bN|apply bd|apply bA));exact BK632.out)):gb633 ≠ gb632));clear HO0_0;clear BK632;clear HK;clear HB;have HO0_0:=n0_;have BK632:=n1_;have HK:=n2_;have HB:=n3_;have BK633:=n4_;have GW633:=n5_;have GE633:=n6_;have NB632_633:=n7_;have NB633_632:=n8_;clear n0_ n1_ n2_ n3_ n4_ n5_ n6_ n7_ n8_;clear hb hbox hg)|((with_reducible refine gate_dst (N:=3) rfl ?_);refine box_event ?hg (N:=3) ?hd (cs:= #[.int .i64 0,.int .i64 0]) (t:=79) ?hr ?_;(case hd=> rfl);(case hg=> rfl);(case hr=> first|(go_simp;done)|(go_simp;rfl));intro gb634 hg w10 hbox hb;have n0_:=Aside0.mk (Kd.R_below (Kd.R_elderB (by (with_reducible repeat (first|apply Kd.R_alloc|apply Kd.R_drewN|apply Kd.R_drew));exact HO0_0.out) gb634 (Nat.le_of_eq hg.symm)) hb);have n1_:=Aside0.mk (blk_below (g:=gb632) (o:= .cells #[.slice Ao7 l0_0.length co7,.int .i64 a0_1,.string a0_2,.int .i64 a0_3] 36 (0,0)) (by (with_reducible repeat (first|apply bN|apply bd|apply bA));exact BK632.out) hb);have n2_:=Aside0.mk (blk_below (g:=gb633) (o:= .cells #[.slice none 0 0,.int .i64 0,.string (⟨#[]⟩:ByteArray),.int .i64 0] 36 (0,0)) (by (with_reducible repeat (first|apply bN|apply bd|apply bA));exact BK633.out) hb);have n3_:=Aside0.mk (Kept.below (S:=(fun k_=> P0_0_ k_)) (by repeat (first|(with_reducible first|exact HK.out|apply Kept.alloc|apply Kept.drewN|apply Kept.drew|refine Kept.setCell ?_ (.inr GW632.out) _|refine Kept.setCell ?_ (.inr GW633.out) _)|exact HK.out)) hb);have n4_:=Aside0.mk (below_step (by repeat (first|(with_reducible first|exact HB.out|apply bwA|apply bwN|apply bwD|refine bwS ?_ GE632.out|refine bwS ?_ GE633.out)|exact HB.out)) hb);have n5_:=Aside0.mk (hbox);have n6_:=Aside0.mk ((by rw [hg];exact (by first|exact HK.out.1|exact (show Kept w _ (fun k_=> P0_0_ k_) from by repeat (first|(with_reducible first|exact HK.out|apply Kept.alloc|apply Kept.drewN|apply Kept.drew|refine Kept.setCell ?_ (.inr GW632.out) _|refine Kept.setCell ?_ (.inr GW633.out) _)|exact HK.out)).1):w.heap.size ≤ gb634));have n7_:=Aside0.mk ((by rw [hg];exact (below_size (by repeat (first|(with_reducible first|exact HB.out|apply bwA|apply bwN|apply bwD|refine bwS ?_ GE632.out|refine bwS ?_ GE633.out)|exact HB.out))):w0.heap.size ≤ gb634));have n8_:=Aside0.mk ((by rw [hg];exact Nat.ne_of_lt (blk_lt (g:=gb632) (o:= .cells #[.slice Ao7 l0_0.length co7,.int .i64 a0_1,.string a0_2,.int .i64 a0_3] 36 (0,0)) (by (with_reducible repeat (first|apply bN|apply bd|apply bA));exact BK632.out)):gb632 ≠ gb634));have n9_:=Aside0.mk ((by rw [hg];exact Nat.ne_of_gt (blk_lt (g:=gb632) (o:= .cells #[.slice Ao7 l0_0.length co7,.int .i64 a0_1,.string a0_2,.int .i64 a0_3] 36 (0,0)) (by (with_reducible repeat (first|apply bN|apply bd|apply bA));exact BK632.out)):gb634 ≠ gb632));have n10_:=Aside0.mk ((by rw [hg];exact Nat.ne_of_lt (blk_lt (g:=gb633) (o:= .cells #[.slice none 0 0,.int .i64 0,.string (⟨#[]⟩:ByteArray),.int .i64 0] 36 (0,0)) (by (with_reducible repeat (first|apply bN|apply bd|apply bA));exact BK633.out)):gb633 ≠ gb634));have n11_:=Aside0.mk ((by rw [hg];exact Nat.ne_of_gt (blk_lt (g:=gb633) (o:= .cells #[.slice none 0 0,.int .i64 0,.string (⟨#[]⟩:ByteArray),.int .i64 0] 36 (0,0)) (by (with_reducible repeat (first|apply bN|apply bd|apply bA));exact BK633.out)):gb634 ≠ gb633));clear HO0_0;clear BK632;clear BK633;clear HK;clear HB;have HO0_0:=n0_;have BK632:=n1_;have BK633:=n2_;have HK:=n3_;have HB:=n4_;have BK634:=n5_;have GW634:=n6_;have GE634:=n7_;have NB632_634:=n8_;have NB634_632:=n9_;have NB633_634:=n10_;have NB634_633:=n11_;clear n0_ n1_ n2_ n3_ n4_ n5_ n6_ n7_ n8_ n9_ n10_ n11_;clear hb hbox hg;have hnb11:=NB632_633.out;have hnc11:=NB633_632.out;have hnb12:=NB632_634.out;have hnc12:=NB634_632.out;have hcz13_0:w10.cell? ⟨gb632,0,none⟩=some (.slice Ao7 l0_0.length co7):=(blk_cell BK632.out 0).trans rfl;have hcz13_1:w10.cell? ⟨gb632,1,none⟩=some (.int .i64 a0_1):=(blk_cell BK632.out 1).trans rfl;have hcz13_2:w10.cell? ⟨gb632,2,none⟩=some (.string a0_2):=(blk_cell BK632.out 2).trans rfl;have hcz13_3:w10.cell? ⟨gb632,3,none⟩=some (.int .i64 a0_3):=(blk_cell BK632.out 3).trans rfl;have hfz13_0:=blk_frozen BK632.out 0;have hfz13_1:=blk_frozen BK632.out 1;have hfz13_2:=blk_frozen BK632.out 2;have hfz13_3:=blk_frozen BK632.out 3))
          have n0_:=Aside0.mk (Kd.R_drew HO0_0.out)
          have n1_:=Aside0.mk (blk_drew BK632.out)
          have n2_:=Aside0.mk (blk_drew BK633.out)
          have n3_:=Aside0.mk (blk_drew BK634.out)
          have n4_:=Aside0.mk (Kept.drew HK.out)
          have n5_:=Aside0.mk (bwD HB.out)
          clear HO0_0
          clear BK632
          clear BK633
          clear BK634
          clear HK
          clear HB
          have HO0_0:=n0_
          have BK632:=n1_
          have BK633:=n2_
          have BK634:=n3_
          have HK:=n4_
          have HB:=n5_
          clear n0_ n1_ n2_ n3_ n4_ n5_
          have p635:0 ≤ ((ji4):Int):=of_decide_eq_true (by first|(with_reducible assumption)|assumption)
          have q635:(ji4) < (l0_0.length:Int):=of_decide_eq_true (by first|(with_reducible assumption)|assumption)
          obtain ⟨ad635,e635,hx635_0,hx635_1⟩:=at_T79 (Kd.R_reads' HO0_0.out).2.2 (ji4) p635 q635
          cases e635
          replace p635:=eq_true p635
          replace q635:=eq_true q635
          refine start_ (n:=12) (S:=fun w'=> w'.cell? ⟨gb632,0,none⟩=some (.slice (some ad635) l0_0.length co7) ∧ w'.cell? ⟨gb632,1,none⟩=some (.int .i64 a0_1) ∧ w'.cell? ⟨gb632,2,none⟩=some (.string a0_2) ∧ w'.cell? ⟨gb632,3,none⟩=some (.int .i64 a0_3) ∧ w'.cell? (ad635.add (((ji4)).toNat * 2))=some (.int .i64 ((rd_T79 l0_0 (ji4)).f0)) ∧ w'.cell? ⟨(ad635.add (((ji4)).toNat * 2)).block,(ad635.add (((ji4)).toNat * 2)).off + 1,none⟩=some (.int .i64 ((rd_T79 l0_0 (ji4)).f1))) (ds:= []) #[false,false,false,false,false,false,false,false,false,false,false,false] (by kernel_rfl) rfl rfl ⟨(blk_cell BK632.out 0).trans rfl,(blk_cell BK632.out 1).trans rfl,(blk_cell BK632.out 2).trans rfl,(blk_cell BK632.out 3).trans rfl,hx635_0,hx635_1⟩ (fun hHeld=> ?_);refine with_tabW spec_l05Draw.tab2 spec_l05Draw.bits2 (fun HT_ HW_=> ?_)
          generalize w10.drew=w14 at HO0_0 BK632 BK633 BK634 HK HB hx635_0 hx635_1 hHeld ⊢
          refine pure_ (i:=0) (N:=some 10) (v:=?_) (a':=?_) #[true,false,false,false,false,false,false,false,false,false,false,false] rfl rfl (any_of HT_.out (by kernel_rfl)) (fun _ _ _ h=> h) (Or.inl ⟨by rfl,?_⟩) ?_ ?_
          rotate_left
          · intro w'
            go_simp
            with_reducible rfl
          rotate_left
          · simp only [Act.put,List.setIfInBounds_toArray,List.set_cons_zero,List.set_cons_succ,i64_w,i32_w]
            rfl
          refine pure_ (i:=2) (N:=some 12) (v:=?_) (a':=?_) #[true,false,true,false,false,false,false,false,false,false,false,false] rfl rfl (any_of HT_.out (by kernel_rfl)) (fun _ _ _ h=> h) (Or.inl ⟨by rfl,?_⟩) ?_ ?_
          rotate_left
          · intro w'
            go_simp
            with_reducible rfl
          rotate_left
          · simp only [Act.put,List.setIfInBounds_toArray,List.set_cons_zero,List.set_cons_succ,i64_w,i32_w]
            rfl
          refine pure_ (i:=4) (N:=some 14) (v:=?_) (a':=?_) #[true,false,true,false,true,false,false,false,false,false,false,false] rfl rfl (any_of HT_.out (by kernel_rfl)) (fun _ _ _ h=> h) (Or.inl ⟨by rfl,?_⟩) ?_ ?_
          rotate_left
          · intro w'
            go_simp
            with_reducible rfl
          rotate_left
          · simp only [Act.put,List.setIfInBounds_toArray,List.set_cons_zero,List.set_cons_succ,i64_w,i32_w]
            rfl
          refine take_ (i:=1) (N:=some 11) (v:=?_) (a':=?_) #[true,true,true,false,true,false,false,false,false,false,false,false] rfl rfl (take_ofW HT_.out HW_.out (by kernel_rfl)) (fun _ _ _ h=> h) (Or.inl ⟨by rfl,?_⟩) hHeld ?_ ?_
          rotate_left
          · rintro w' ⟨s0,s1,s2,s3,s4,s5⟩
            go_simp
            with_reducible rfl
          rotate_left
          · simp only [Act.put,List.setIfInBounds_toArray,List.set_cons_zero,List.set_cons_succ,i64_w,i32_w]
            rfl
          refine take_ (i:=3) (N:=some 13) (v:=?_) (a':=?_) #[true,true,true,true,true,false,false,false,false,false,false,false] rfl rfl (take_ofW HT_.out HW_.out (by kernel_rfl)) (fun _ _ _ h=> h) (Or.inl ⟨by rfl,?_⟩) hHeld ?_ ?_
          rotate_left
          · rintro w' ⟨s0,s1,s2,s3,s4,s5⟩
            go_simp
            with_reducible rfl
          rotate_left
          · simp only [Act.put,List.setIfInBounds_toArray,List.set_cons_zero,List.set_cons_succ,i64_w,i32_w]
            rfl
          refine take_ (i:=5) (N:=some 15) (v:=?_) (a':=?_) #[true,true,true,true,true,true,false,false,false,false,false,false] rfl rfl (take_ofW HT_.out HW_.out (by kernel_rfl)) (fun _ _ _ h=> h) (Or.inl ⟨by rfl,?_⟩) hHeld ?_ ?_
          rotate_left
          · rintro w' ⟨s0,s1,s2,s3,s4,s5⟩
            go_simp
            with_reducible rfl
          rotate_left
          · simp only [Act.put,List.setIfInBounds_toArray,List.set_cons_zero,List.set_cons_succ,i64_w,i32_w]
            rfl
          refine pure_ (i:=6) (N:=some 16) (v:=?_) (a':=?_) #[true,true,true,true,true,true,true,false,false,false,false,false] rfl rfl (any_of HT_.out (by kernel_rfl)) (fun _ _ _ h=> h) (Or.inl ⟨by rfl,?_⟩) ?_ ?_
          rotate_left
          · intro w'
            go_simp
            with_reducible rfl
          rotate_left
          · simp only [Act.put,List.setIfInBounds_toArray,List.set_cons_zero,List.set_cons_succ,i64_w,i32_w]
            rfl
          refine pure_ (i:=7) (N:=some 17) (v:=?_) (a':=?_) #[true,true,true,true,true,true,true,true,false,false,false,false] rfl rfl (any_of HT_.out (by kernel_rfl)) (fun _ _ _ h=> h) (Or.inl ⟨by rfl,?_⟩) ?_ ?_
          rotate_left
          · intro w'
            go_simp
            with_reducible rfl
          rotate_left
          · simp only [Act.put,List.setIfInBounds_toArray,List.set_cons_zero,List.set_cons_succ,i64_w,i32_w]
            rfl
          refine pure_ (i:=8) (N:=some 18) (v:=?_) (a':=?_) #[true,true,true,true,true,true,true,true,true,false,false,false] rfl rfl (any_of HT_.out (by kernel_rfl)) (fun _ _ _ h=> h) (Or.inl ⟨by rfl,?_⟩) ?_ ?_
          rotate_left
          · intro w'
            go_simp
            with_reducible rfl
          rotate_left
          · simp only [Act.put,List.setIfInBounds_toArray,List.set_cons_zero,List.set_cons_succ,i64_w,i32_w]
            rfl
          refine take_ (i:=9) (N:=some 19) (v:=?_) (a':=?_) #[true,true,true,true,true,true,true,true,true,true,false,false] rfl rfl (take_ofW HT_.out HW_.out (by kernel_rfl)) (fun _ _ _ h=> h) (Or.inl ⟨by rfl,?_⟩) hHeld ?_ ?_
          rotate_left
          · rintro w' ⟨s0,s1,s2,s3,s4,s5⟩
            go_simp
            with_reducible rfl
          rotate_left
          · simp only [Act.put,List.setIfInBounds_toArray,List.set_cons_zero,List.set_cons_succ,i64_w,i32_w]
            rfl
          refine one_ (i:=10) (N:=some 4) #[true,true,true,true,true,true,true,true,true,true,true,false] rfl rfl (one_of HT_.out (by kernel_rfl)) (by decide) (fun K hK=> ?_)
          refine box_step ?hg (N:=4) ?hd (cs:= #[.int .i64 0,.int .i64 0]) (t:=79) ?hr ?_;(case hd=> rfl);(case hg=> rfl);(case hr=> first|(go_simp;done)|(go_simp;rfl))
          intro gb636 hg w15 hbox hb
          have HS4_:=(hb.cell (World.block_lt_of_cell? _ _ (hHeld.2.2.2.2.1))).trans (hHeld.2.2.2.2.1)
          have HS5_:=(hb.cell (World.block_lt_of_cell? _ _ (hHeld.2.2.2.2.2))).trans (hHeld.2.2.2.2.2)
          have n0_:=Aside0.mk (Kd.R_below (Kd.R_elderB (by (with_reducible repeat (first|apply Kd.R_alloc|apply Kd.R_drewN|apply Kd.R_drew));exact HO0_0.out) gb636 (Nat.le_of_eq hg.symm)) hb)
          have n1_:=Aside0.mk (blk_below (g:=gb632) (o:= .cells #[.slice (some ad635) l0_0.length co7,.int .i64 a0_1,.string a0_2,.int .i64 a0_3] 36 (0,0)) (by (with_reducible repeat (first|apply bN|apply bd|apply bA));exact BK632.out) hb)
          have n2_:=Aside0.mk (blk_below (g:=gb633) (o:= .cells #[.slice none 0 0,.int .i64 0,.string (⟨#[]⟩:ByteArray),.int .i64 0] 36 (0,0)) (by (with_reducible repeat (first|apply bN|apply bd|apply bA));exact BK633.out) hb)
          have n3_:=Aside0.mk (blk_below (g:=gb634) (o:= .cells #[.int .i64 0,.int .i64 0] 79 (0,0)) (by (with_reducible repeat (first|apply bN|apply bd|apply bA));exact BK634.out) hb)
          have n4_:=Aside0.mk (Kept.below (S:=(fun k_=> P0_0_ k_)) (by repeat (first|(with_reducible first|exact HK.out|apply Kept.alloc|apply Kept.drewN|apply Kept.drew|refine Kept.setCell ?_ (.inr GW632.out) _|refine Kept.setCell ?_ (.inr GW633.out) _|refine Kept.setCell ?_ (.inr GW634.out) _)|exact HK.out)) hb)
          have n5_:=Aside0.mk (below_step (by repeat (first|(with_reducible first|exact HB.out|apply bwA|apply bwN|apply bwD|refine bwS ?_ GE632.out|refine bwS ?_ GE633.out|refine bwS ?_ GE634.out)|exact HB.out)) hb)
          have n6_:=Aside0.mk (hbox)
          have n7_:=Aside0.mk ((by rw [hg];exact (by first|exact HK.out.1|exact (show Kept w _ (fun k_=> P0_0_ k_) from by repeat (first|(with_reducible first|exact HK.out|apply Kept.alloc|apply Kept.drewN|apply Kept.drew|refine Kept.setCell ?_ (.inr GW632.out) _|refine Kept.setCell ?_ (.inr GW633.out) _|refine Kept.setCell ?_ (.inr GW634.out) _)|exact HK.out)).1):w.heap.size ≤ gb636))
          have n8_:=Aside0.mk ((by rw [hg];exact (below_size (by repeat (first|(with_reducible first|exact HB.out|apply bwA|apply bwN|apply bwD|refine bwS ?_ GE632.out|refine bwS ?_ GE633.out|refine bwS ?_ GE634.out)|exact HB.out))):w0.heap.size ≤ gb636))
          have n9_:=Aside0.mk ((by rw [hg];exact Nat.ne_of_lt (blk_lt (g:=gb632) (o:= .cells #[.slice (some ad635) l0_0.length co7,.int .i64 a0_1,.string a0_2,.int .i64 a0_3] 36 (0,0)) (by (with_reducible repeat (first|apply bN|apply bd|apply bA));exact BK632.out)):gb632 ≠ gb636))
          have n10_:=Aside0.mk ((by rw [hg];exact Nat.ne_of_gt (blk_lt (g:=gb632) (o:= .cells #[.slice (some ad635) l0_0.length co7,.int .i64 a0_1,.string a0_2,.int .i64 a0_3] 36 (0,0)) (by (with_reducible repeat (first|apply bN|apply bd|apply bA));exact BK632.out)):gb636 ≠ gb632))
          have n11_:=Aside0.mk ((by rw [hg];exact Nat.ne_of_lt (blk_lt (g:=gb633) (o:= .cells #[.slice none 0 0,.int .i64 0,.string (⟨#[]⟩:ByteArray),.int .i64 0] 36 (0,0)) (by (with_reducible repeat (first|apply bN|apply bd|apply bA));exact BK633.out)):gb633 ≠ gb636))
          have n12_:=Aside0.mk ((by rw [hg];exact Nat.ne_of_gt (blk_lt (g:=gb633) (o:= .cells #[.slice none 0 0,.int .i64 0,.string (⟨#[]⟩:ByteArray),.int .i64 0] 36 (0,0)) (by (with_reducible repeat (first|apply bN|apply bd|apply bA));exact BK633.out)):gb636 ≠ gb633))
          have n13_:=Aside0.mk ((by rw [hg];exact Nat.ne_of_lt (blk_lt (g:=gb634) (o:= .cells #[.int .i64 0,.int .i64 0] 79 (0,0)) (by (with_reducible repeat (first|apply bN|apply bd|apply bA));exact BK634.out)):gb634 ≠ gb636))
          have n14_:=Aside0.mk ((by rw [hg];exact Nat.ne_of_gt (blk_lt (g:=gb634) (o:= .cells #[.int .i64 0,.int .i64 0] 79 (0,0)) (by (with_reducible repeat (first|apply bN|apply bd|apply bA));exact BK634.out)):gb636 ≠ gb634))
          clear HO0_0
          clear BK632
          clear BK633
          clear BK634
          clear HK
          clear HB
          have HO0_0:=n0_
          have BK632:=n1_
          have BK633:=n2_
          have BK634:=n3_
          have HK:=n4_
          have HB:=n5_
          have BK636:=n6_
          have GW636:=n7_
          have GE636:=n8_
          have NB632_636:=n9_
          have NB636_632:=n10_
          have NB633_636:=n11_
          have NB636_633:=n12_
          have NB634_636:=n13_
          have NB636_634:=n14_
          clear n0_ n1_ n2_ n3_ n4_ n5_ n6_ n7_ n8_ n9_ n10_ n11_ n12_ n13_ n14_
          clear hb hbox hg
          refine hK.out _ _ ⟨(blk_cell BK632.out 0).trans rfl,(blk_cell BK632.out 1).trans rfl,(blk_cell BK632.out 2).trans rfl,(blk_cell BK632.out 3).trans rfl,HS4_,HS5_⟩ (fun hHeld=> ?_)
          clear hK K
          refine norm_ (a':=?_) ?_ ?_
          rotate_left
          · show Act.put _ (some 4) _=_
            simp only [Act.put,List.setIfInBounds_toArray,List.set_cons_zero,List.set_cons_succ,i64_w,i32_w]
            rfl
          refine one_ (i:=11) (N:=none) #[true,true,true,true,true,true,true,true,true,true,true,true] rfl rfl (one_of HT_.out (by kernel_rfl)) (by decide) (fun K hK=> ?_)
          have hs16:w15.cell? ⟨gb636,0,none⟩=some (.int .i64 0):=(blk_cell BK636.out 0).trans rfl
          have hfs16:=blk_frozen BK636.out 0
          have hns16_0:=NB632_636.out
          have hns16_1:=NB633_636.out
          have hns16_2:=NB634_636.out
          have hms16_0:=NB636_632.out
          have hms16_1:=NB636_633.out
          have hms16_2:=NB636_634.out
          have hs17:w15.cell? ⟨gb636,1,none⟩=some (.int .i64 0):=(blk_cell BK636.out 1).trans rfl
          have hfs17:=blk_frozen BK636.out 1
          have hns17_0:=NB632_636.out
          have hns17_1:=NB633_636.out
          have hns17_2:=NB634_636.out
          have hms17_0:=NB636_632.out
          have hms17_1:=NB636_633.out
          have hms17_2:=NB636_634.out
          refine skip_ (w1:=?_) (by rfl) rfl ?_ ?_
          rotate_left
          · go_simp
            rfl
          refine hK.out _ _ ⟨((cell_far (p:=⟨gb636,_,none⟩) NB632_636.out _).trans (((cell_far (p:=⟨gb636,_,none⟩) NB632_636.out _).trans (hHeld.1)))),((cell_far (p:=⟨gb636,_,none⟩) NB632_636.out _).trans (((cell_far (p:=⟨gb636,_,none⟩) NB632_636.out _).trans (hHeld.2.1)))),((cell_far (p:=⟨gb636,_,none⟩) NB632_636.out _).trans (((cell_far (p:=⟨gb636,_,none⟩) NB632_636.out _).trans (hHeld.2.2.1)))),((cell_far (p:=⟨gb636,_,none⟩) NB632_636.out _).trans (((cell_far (p:=⟨gb636,_,none⟩) NB632_636.out _).trans (hHeld.2.2.2.1)))),((cell_far (p:=⟨gb636,_,none⟩) (by first|exact Kd.own_blk (Kd.R_away HO0_0.out (fun _ hk=> hk.2))|(rw [add_block];exact Kd.own_blk (Kd.R_away HO0_0.out (fun _ hk=> hk.2)))|(show (Addr.add _ _).block ≠ _;rw [add_block];exact Kd.own_blk (Kd.R_away HO0_0.out (fun _ hk=> hk.2)))|(dsimp only;exact Kd.own_blk (Kd.R_away HO0_0.out (fun _ hk=> hk.2)))) _).trans (((cell_far (p:=⟨gb636,_,none⟩) (by first|exact Kd.own_blk (Kd.R_away HO0_0.out (fun _ hk=> hk.2))|(rw [add_block];exact Kd.own_blk (Kd.R_away HO0_0.out (fun _ hk=> hk.2)))|(show (Addr.add _ _).block ≠ _;rw [add_block];exact Kd.own_blk (Kd.R_away HO0_0.out (fun _ hk=> hk.2)))|(dsimp only;exact Kd.own_blk (Kd.R_away HO0_0.out (fun _ hk=> hk.2)))) _).trans (hHeld.2.2.2.2.1)))),((cell_far (p:=⟨gb636,_,none⟩) (by first|exact Kd.own_blk (Kd.R_away HO0_0.out (fun _ hk=> hk.2))|(rw [add_block];exact Kd.own_blk (Kd.R_away HO0_0.out (fun _ hk=> hk.2)))|(show (Addr.add _ _).block ≠ _;rw [add_block];exact Kd.own_blk (Kd.R_away HO0_0.out (fun _ hk=> hk.2)))|(dsimp only;exact Kd.own_blk (Kd.R_away HO0_0.out (fun _ hk=> hk.2)))) _).trans (((cell_far (p:=⟨gb636,_,none⟩) (by first|exact Kd.own_blk (Kd.R_away HO0_0.out (fun _ hk=> hk.2))|(rw [add_block];exact Kd.own_blk (Kd.R_away HO0_0.out (fun _ hk=> hk.2)))|(show (Addr.add _ _).block ≠ _;rw [add_block];exact Kd.own_blk (Kd.R_away HO0_0.out (fun _ hk=> hk.2)))|(dsimp only;exact Kd.own_blk (Kd.R_away HO0_0.out (fun _ hk=> hk.2)))) _).trans (hHeld.2.2.2.2.2))))⟩ (fun hHeld=> ?_)
          clear hK K
          refine done_ (done_of HT_.out (by kernel_rfl)) ?_
          have hnb18:=NB632_636.out
          have hnc18:=NB636_632.out
          have hcz19_0:w15.cell? ⟨gb632,0,none⟩=some (.slice (some ad635) l0_0.length co7):=(blk_cell BK632.out 0).trans rfl
          have hcz19_1:w15.cell? ⟨gb632,1,none⟩=some (.int .i64 a0_1):=(blk_cell BK632.out 1).trans rfl
          have hcz19_2:w15.cell? ⟨gb632,2,none⟩=some (.string a0_2):=(blk_cell BK632.out 2).trans rfl
          have hcz19_3:w15.cell? ⟨gb632,3,none⟩=some (.int .i64 a0_3):=(blk_cell BK632.out 3).trans rfl
          have hfz19_0:=blk_frozen BK632.out 0
          have hfz19_1:=blk_frozen BK632.out 1
          have hfz19_2:=blk_frozen BK632.out 2
          have hfz19_3:=blk_frozen BK632.out 3
          try go_wp2
          have n0_:Aside0 (Kd.R k79 79 (((w15.setCell ⟨gb636,0,none⟩ (.int .i64 ((rd_T79 l0_0 (ji4)).f0))).setCell ⟨gb636,1,none⟩ (.int .i64 ((rd_T79 l0_0 (ji4)).f1))).setCell ⟨gb632,1,none⟩ (.int .i64 (wrap64 (a0_1 + 1)))) w0.heap.size (fun k_=> (P0_0_ k_ ∨ w.heap.size ≤ k_) ∧ k_ ≠ gb634 ∧ k_ ≠ gb636) (.slice (some ad635) l0_0.length co7) l0_0):=⟨by (with_reducible repeat (first|apply Kd.R_alloc|apply Kd.R_drewN|apply Kd.R_drew));exact Kd.R_mono (Kd.R_far (p:=⟨gb632,1,none⟩) (Kd.R_far (p:=⟨gb636,1,none⟩) (Kd.R_far (p:=⟨gb636,0,none⟩) (Kd.R_types (Kd.R_mono HO0_0.out (fun k_ hk=> (⟨hk,hk.2⟩:_ ∧ k_ ≠ gb636))) BK632.out (by decide)) (fun _ hk=> hk.1.2) (.int .i64 ((rd_T79 l0_0 (ji4)).f0))) (fun _ hk=> hk.1.2) (.int .i64 ((rd_T79 l0_0 (ji4)).f1))) (fun _ hk=> hk.2) (.int .i64 (wrap64 (a0_1 + 1)))) (fun _ hk=> ⟨hk.1.1.1.1,⟨hk.1.1.1.2,hk.1.1.2⟩⟩)⟩
          have n1_:Aside0 ((((w15.setCell ⟨gb636,0,none⟩ (.int .i64 ((rd_T79 l0_0 (ji4)).f0))).setCell ⟨gb636,1,none⟩ (.int .i64 ((rd_T79 l0_0 (ji4)).f1))).setCell ⟨gb632,1,none⟩ (.int .i64 (wrap64 (a0_1 + 1)))).heap[gb632]?=some (.cells #[.slice (some ad635) l0_0.length co7,.int .i64 (wrap64 (a0_1 + 1)),.string a0_2,.int .i64 a0_3] 36 (0,0))):=⟨by (with_reducible repeat (first|apply bN|apply bd|apply bA));refine blk_put (cs:= #[.slice (some ad635) l0_0.length co7,.int .i64 a0_1,.string a0_2,.int .i64 a0_3]) ?_ 1 _ rfl;(with_reducible repeat (first|apply bN|apply bd|apply bA));refine blk_far ?_ NB632_636.out _;(with_reducible repeat (first|apply bN|apply bd|apply bA));refine blk_far ?_ NB632_636.out _;(with_reducible repeat (first|apply bN|apply bd|apply bA));exact BK632.out⟩
          have n2_:Aside0 ((((w15.setCell ⟨gb636,0,none⟩ (.int .i64 ((rd_T79 l0_0 (ji4)).f0))).setCell ⟨gb636,1,none⟩ (.int .i64 ((rd_T79 l0_0 (ji4)).f1))).setCell ⟨gb632,1,none⟩ (.int .i64 (wrap64 (a0_1 + 1)))).heap[gb633]?=some (.cells #[.slice none 0 0,.int .i64 0,.string (⟨#[]⟩:ByteArray),.int .i64 0] 36 (0,0))):=⟨by (with_reducible repeat (first|apply bN|apply bd|apply bA));refine blk_far ?_ NB633_632.out _;(with_reducible repeat (first|apply bN|apply bd|apply bA));refine blk_far ?_ NB633_636.out _;(with_reducible repeat (first|apply bN|apply bd|apply bA));refine blk_far ?_ NB633_636.out _;(with_reducible repeat (first|apply bN|apply bd|apply bA));exact BK633.out⟩
          have n3_:Aside0 ((((w15.setCell ⟨gb636,0,none⟩ (.int .i64 ((rd_T79 l0_0 (ji4)).f0))).setCell ⟨gb636,1,none⟩ (.int .i64 ((rd_T79 l0_0 (ji4)).f1))).setCell ⟨gb632,1,none⟩ (.int .i64 (wrap64 (a0_1 + 1)))).heap[gb634]?=some (.cells #[.int .i64 0,.int .i64 0] 79 (0,0))):=⟨by (with_reducible repeat (first|apply bN|apply bd|apply bA));refine blk_far ?_ NB634_632.out _;(with_reducible repeat (first|apply bN|apply bd|apply bA));refine blk_far ?_ NB634_636.out _;(with_reducible repeat (first|apply bN|apply bd|apply bA));refine blk_far ?_ NB634_636.out _;(with_reducible repeat (first|apply bN|apply bd|apply bA));exact BK634.out⟩
          have n4_:Aside0 ((((w15.setCell ⟨gb636,0,none⟩ (.int .i64 ((rd_T79 l0_0 (ji4)).f0))).setCell ⟨gb636,1,none⟩ (.int .i64 ((rd_T79 l0_0 (ji4)).f1))).setCell ⟨gb632,1,none⟩ (.int .i64 (wrap64 (a0_1 + 1)))).heap[gb636]?=some (.cells #[.int .i64 ((rd_T79 l0_0 (ji4)).f0),.int .i64 ((rd_T79 l0_0 (ji4)).f1)] 79 (0,0))):=⟨by (with_reducible repeat (first|apply bN|apply bd|apply bA));refine blk_far ?_ NB636_632.out _;(with_reducible repeat (first|apply bN|apply bd|apply bA));refine blk_put (cs:= #[.int .i64 ((rd_T79 l0_0 (ji4)).f0),.int .i64 0]) ?_ 1 _ rfl;(with_reducible repeat (first|apply bN|apply bd|apply bA));refine blk_put (cs:= #[.int .i64 0,.int .i64 0]) ?_ 0 _ rfl;(with_reducible repeat (first|apply bN|apply bd|apply bA));exact BK636.out⟩
          have n5_:Aside0 (Kept w (((w15.setCell ⟨gb636,0,none⟩ (.int .i64 ((rd_T79 l0_0 (ji4)).f0))).setCell ⟨gb636,1,none⟩ (.int .i64 ((rd_T79 l0_0 (ji4)).f1))).setCell ⟨gb632,1,none⟩ (.int .i64 (wrap64 (a0_1 + 1)))) (fun k_=> P0_0_ k_)):=⟨by repeat (first|(with_reducible first|exact HK.out|apply Kept.alloc|apply Kept.drewN|apply Kept.drew|refine Kept.setCell ?_ (.inr GW632.out) _|refine Kept.setCell ?_ (.inr GW633.out) _|refine Kept.setCell ?_ (.inr GW634.out) _|refine Kept.setCell ?_ (.inr GW636.out) _)|exact HK.out)⟩
          have n6_:Aside0 (Below w0.heap.size w0 (((w15.setCell ⟨gb636,0,none⟩ (.int .i64 ((rd_T79 l0_0 (ji4)).f0))).setCell ⟨gb636,1,none⟩ (.int .i64 ((rd_T79 l0_0 (ji4)).f1))).setCell ⟨gb632,1,none⟩ (.int .i64 (wrap64 (a0_1 + 1))))):=⟨by repeat (first|(with_reducible first|exact HB.out|apply bwA|apply bwN|apply bwD|refine bwS ?_ GE632.out|refine bwS ?_ GE633.out|refine bwS ?_ GE634.out|refine bwS ?_ GE636.out)|exact HB.out)⟩
          (try clear HO0_0)
          (try clear BK632)
          (try clear BK633)
          (try clear BK634)
          (try clear BK636)
          (try clear HK)
          (try clear HB)
          generalize (((w15.setCell ⟨gb636,0,none⟩ (.int .i64 ((rd_T79 l0_0 (ji4)).f0))).setCell ⟨gb636,1,none⟩ (.int .i64 ((rd_T79 l0_0 (ji4)).f1))).setCell ⟨gb632,1,none⟩ (.int .i64 (wrap64 (a0_1 + 1))))=w20 at n0_ n1_ n2_ n3_ n4_ n5_ n6_ ⊢
          have HO0_0:=n0_
          have BK632:=n1_
          have BK633:=n2_
          have BK634:=n3_
          have BK636:=n4_
          have HK:=n5_
          have HB:=n6_
          clear n0_ n1_ n2_ n3_ n4_ n5_ n6_
          have n0_:=Aside0.mk (Kd.R_drew HO0_0.out)
          have n1_:=Aside0.mk (blk_drew BK632.out)
          have n2_:=Aside0.mk (blk_drew BK633.out)
          have n3_:=Aside0.mk (blk_drew BK634.out)
          have n4_:=Aside0.mk (blk_drew BK636.out)
          have n5_:=Aside0.mk (Kept.drew HK.out)
          have n6_:=Aside0.mk (bwD HB.out)
          clear HO0_0
          clear BK632
          clear BK633
          clear BK634
          clear BK636
          clear HK
          clear HB
          have HO0_0:=n0_
          have BK632:=n1_
          have BK633:=n2_
          have BK634:=n3_
          have BK636:=n4_
          have HK:=n5_
          have HB:=n6_
          clear n0_ n1_ n2_ n3_ n4_ n5_ n6_
          refine start_ (n:=4) (S:=fun w'=> w'.cell? ⟨gb632,0,none⟩=some (.slice (some ad635) l0_0.length co7) ∧ w'.cell? ⟨gb632,1,none⟩=some (.int .i64 (wrap64 (a0_1 + 1))) ∧ w'.cell? ⟨gb632,2,none⟩=some (.string a0_2) ∧ w'.cell? ⟨gb632,3,none⟩=some (.int .i64 a0_3) ∧ w'.cell? ⟨gb636,0,none⟩=some (.int .i64 ((rd_T79 l0_0 (ji4)).f0)) ∧ w'.cell? ⟨gb636,1,none⟩=some (.int .i64 ((rd_T79 l0_0 (ji4)).f1))) (ds:= []) #[false,false,false,false] (by kernel_rfl) rfl rfl ⟨(blk_cell BK632.out 0).trans rfl,(blk_cell BK632.out 1).trans rfl,(blk_cell BK632.out 2).trans rfl,(blk_cell BK632.out 3).trans rfl,(blk_cell BK636.out 0).trans rfl,(blk_cell BK636.out 1).trans rfl⟩ (fun hHeld=> ?_)
          generalize w20.drew=w21 at HO0_0 BK632 BK633 BK634 BK636 HK HB hHeld ⊢
          refine take_ (i:=0) (N:=some 24) (v:=?_) (a':=?_) #[true,false,false,false] rfl rfl (by kernel_rfl) (fun _ _ _ h=> h) (Or.inl ⟨by rfl,?_⟩) hHeld ?_ ?_
          rotate_left
          · rintro w' ⟨s0,s1,s2,s3,s4,s5⟩
            go_simp
            with_reducible rfl
          rotate_left
          · simp only [Act.put,List.setIfInBounds_toArray,List.set_cons_zero,List.set_cons_succ,i64_w,i32_w]
            rfl
          refine take_ (i:=1) (N:=some 25) (v:=?_) (a':=?_) #[true,true,false,false] rfl rfl (by kernel_rfl) (fun _ _ _ h=> h) (Or.inl ⟨by rfl,?_⟩) hHeld ?_ ?_
          rotate_left
          · rintro w' ⟨s0,s1,s2,s3,s4,s5⟩
            go_simp
            with_reducible rfl
          rotate_left
          · simp only [Act.put,List.setIfInBounds_toArray,List.set_cons_zero,List.set_cons_succ,i64_w,i32_w]
            rfl
          refine one_ (i:=2) (N:=none) #[true,true,true,false] rfl rfl (by kernel_rfl) (by decide) (fun K hK=> ?_)
          have hs22:w21.cell? ⟨gb633,0,none⟩=some (.slice none 0 0):=(blk_cell BK633.out 0).trans rfl
          have hfs22:=blk_frozen BK633.out 0
          have hns22_0:=NB632_633.out
          have hns22_2:=NB634_633.out
          have hns22_3:=NB636_633.out
          have hms22_0:=NB633_632.out
          have hms22_2:=NB633_634.out
          have hms22_3:=NB633_636.out
          have hs23:w21.cell? ⟨gb633,1,none⟩=some (.int .i64 0):=(blk_cell BK633.out 1).trans rfl
          have hfs23:=blk_frozen BK633.out 1
          have hns23_0:=NB632_633.out
          have hns23_2:=NB634_633.out
          have hns23_3:=NB636_633.out
          have hms23_0:=NB633_632.out
          have hms23_2:=NB633_634.out
          have hms23_3:=NB633_636.out
          have hs24:w21.cell? ⟨gb633,2,none⟩=some (.string (⟨#[]⟩:ByteArray)):=(blk_cell BK633.out 2).trans rfl
          have hfs24:=blk_frozen BK633.out 2
          have hns24_0:=NB632_633.out
          have hns24_2:=NB634_633.out
          have hns24_3:=NB636_633.out
          have hms24_0:=NB633_632.out
          have hms24_2:=NB633_634.out
          have hms24_3:=NB633_636.out
          have hs25:w21.cell? ⟨gb633,3,none⟩=some (.int .i64 0):=(blk_cell BK633.out 3).trans rfl
          have hfs25:=blk_frozen BK633.out 3
          have hns25_0:=NB632_633.out
          have hns25_2:=NB634_633.out
          have hns25_3:=NB636_633.out
          have hms25_0:=NB633_632.out
          have hms25_2:=NB633_634.out
          have hms25_3:=NB633_636.out
          refine skip_ (w1:=?_) (by rfl) rfl ?_ ?_
          rotate_left
          · go_simp
            rfl
          refine hK.out _ _ ⟨((cell_far (p:=⟨gb633,_,none⟩) NB632_633.out _).trans (((cell_far (p:=⟨gb633,_,none⟩) NB632_633.out _).trans (((cell_far (p:=⟨gb633,_,none⟩) NB632_633.out _).trans (((cell_far (p:=⟨gb633,_,none⟩) NB632_633.out _).trans (hHeld.1)))))))),((cell_far (p:=⟨gb633,_,none⟩) NB632_633.out _).trans (((cell_far (p:=⟨gb633,_,none⟩) NB632_633.out _).trans (((cell_far (p:=⟨gb633,_,none⟩) NB632_633.out _).trans (((cell_far (p:=⟨gb633,_,none⟩) NB632_633.out _).trans (hHeld.2.1)))))))),((cell_far (p:=⟨gb633,_,none⟩) NB632_633.out _).trans (((cell_far (p:=⟨gb633,_,none⟩) NB632_633.out _).trans (((cell_far (p:=⟨gb633,_,none⟩) NB632_633.out _).trans (((cell_far (p:=⟨gb633,_,none⟩) NB632_633.out _).trans (hHeld.2.2.1)))))))),((cell_far (p:=⟨gb633,_,none⟩) NB632_633.out _).trans (((cell_far (p:=⟨gb633,_,none⟩) NB632_633.out _).trans (((cell_far (p:=⟨gb633,_,none⟩) NB632_633.out _).trans (((cell_far (p:=⟨gb633,_,none⟩) NB632_633.out _).trans (hHeld.2.2.2.1)))))))),((cell_far (p:=⟨gb633,_,none⟩) NB636_633.out _).trans (((cell_far (p:=⟨gb633,_,none⟩) NB636_633.out _).trans (((cell_far (p:=⟨gb633,_,none⟩) NB636_633.out _).trans (((cell_far (p:=⟨gb633,_,none⟩) NB636_633.out _).trans (hHeld.2.2.2.2.1)))))))),((cell_far (p:=⟨gb633,_,none⟩) NB636_633.out _).trans (((cell_far (p:=⟨gb633,_,none⟩) NB636_633.out _).trans (((cell_far (p:=⟨gb633,_,none⟩) NB636_633.out _).trans (((cell_far (p:=⟨gb633,_,none⟩) NB636_633.out _).trans (hHeld.2.2.2.2.2))))))))⟩ (fun hHeld=> ?_)
          clear hK K
          refine one_ (i:=3) (N:=none) #[true,true,true,true] rfl rfl (by kernel_rfl) (by decide) (fun K hK=> ?_)
          have hs26:w21.cell? ⟨gb634,0,none⟩=some (.int .i64 0):=(blk_cell BK634.out 0).trans rfl
          have hfs26:=blk_frozen BK634.out 0
          have hns26_0:=NB632_634.out
          have hns26_1:=NB633_634.out
          have hns26_3:=NB636_634.out
          have hms26_0:=NB634_632.out
          have hms26_1:=NB634_633.out
          have hms26_3:=NB634_636.out
          have hs27:w21.cell? ⟨gb634,1,none⟩=some (.int .i64 0):=(blk_cell BK634.out 1).trans rfl
          have hfs27:=blk_frozen BK634.out 1
          have hns27_0:=NB632_634.out
          have hns27_1:=NB633_634.out
          have hns27_3:=NB636_634.out
          have hms27_0:=NB634_632.out
          have hms27_1:=NB634_633.out
          have hms27_3:=NB634_636.out
          refine skip_ (w1:=?_) (by rfl) rfl ?_ ?_
          rotate_left
          · go_simp
            rfl
          refine hK.out _ _ ⟨((cell_far (p:=⟨gb634,_,none⟩) NB632_634.out _).trans (((cell_far (p:=⟨gb634,_,none⟩) NB632_634.out _).trans (hHeld.1)))),((cell_far (p:=⟨gb634,_,none⟩) NB632_634.out _).trans (((cell_far (p:=⟨gb634,_,none⟩) NB632_634.out _).trans (hHeld.2.1)))),((cell_far (p:=⟨gb634,_,none⟩) NB632_634.out _).trans (((cell_far (p:=⟨gb634,_,none⟩) NB632_634.out _).trans (hHeld.2.2.1)))),((cell_far (p:=⟨gb634,_,none⟩) NB632_634.out _).trans (((cell_far (p:=⟨gb634,_,none⟩) NB632_634.out _).trans (hHeld.2.2.2.1)))),((cell_far (p:=⟨gb634,_,none⟩) NB636_634.out _).trans (((cell_far (p:=⟨gb634,_,none⟩) NB636_634.out _).trans (hHeld.2.2.2.2.1)))),((cell_far (p:=⟨gb634,_,none⟩) NB636_634.out _).trans (((cell_far (p:=⟨gb634,_,none⟩) NB636_634.out _).trans (hHeld.2.2.2.2.2))))⟩ (fun hHeld=> ?_)
          clear hK K
          refine done_ (by kernel_rfl) ?_
          try go_wp2
          refine bodyPost_ret (results_cc rfl _ _ gb633 gb634 36 79 #[.slice (some ad635) l0_0.length co7,.int .i64 (wrap64 (a0_1 + 1)),.string a0_2,.int .i64 a0_3] #[.int .i64 ((rd_T79 l0_0 (ji4)).f0),.int .i64 ((rd_T79 l0_0 (ji4)).f1)] (0,0) (0,0) _ _ rfl (by (with_reducible repeat (first|apply bN|apply bd|apply bA));refine blk_far ?_ NB633_634.out _;(with_reducible repeat (first|apply bN|apply bd|apply bA));refine blk_far ?_ NB633_634.out _;(with_reducible repeat (first|apply bN|apply bd|apply bA));refine blk_put (cs:= #[.slice (some ad635) l0_0.length co7,.int .i64 (wrap64 (a0_1 + 1)),.string a0_2,.int .i64 0]) ?_ 3 _ rfl;(with_reducible repeat (first|apply bN|apply bd|apply bA));refine blk_put (cs:= #[.slice (some ad635) l0_0.length co7,.int .i64 (wrap64 (a0_1 + 1)),.string (⟨#[]⟩:ByteArray),.int .i64 0]) ?_ 2 _ rfl;(with_reducible repeat (first|apply bN|apply bd|apply bA));refine blk_put (cs:= #[.slice (some ad635) l0_0.length co7,.int .i64 0,.string (⟨#[]⟩:ByteArray),.int .i64 0]) ?_ 1 _ rfl;(with_reducible repeat (first|apply bN|apply bd|apply bA));refine blk_put (cs:= #[.slice none 0 0,.int .i64 0,.string (⟨#[]⟩:ByteArray),.int .i64 0]) ?_ 0 _ rfl;(with_reducible repeat (first|apply bN|apply bd|apply bA));exact BK633.out) Try.underlying36 rfl (by kernel_rfl) rfl (by (with_reducible repeat (first|apply bN|apply bd|apply bA));refine blk_put (cs:= #[.int .i64 ((rd_T79 l0_0 (ji4)).f0),.int .i64 0]) ?_ 1 _ rfl;(with_reducible repeat (first|apply bN|apply bd|apply bA));refine blk_put (cs:= #[.int .i64 0,.int .i64 0]) ?_ 0 _ rfl;(with_reducible repeat (first|apply bN|apply bd|apply bA));refine blk_far ?_ NB634_633.out _;(with_reducible repeat (first|apply bN|apply bd|apply bA));refine blk_far ?_ NB634_633.out _;(with_reducible repeat (first|apply bN|apply bd|apply bA));refine blk_far ?_ NB634_633.out _;(with_reducible repeat (first|apply bN|apply bd|apply bA));refine blk_far ?_ NB634_633.out _;(with_reducible repeat (first|apply bN|apply bd|apply bA));exact BK634.out) Try.underlying79 rfl (by kernel_rfl)) rfl ?_
          exact ⟨_,by first|rfl|(simp [errW_none,errW_some] <;> rfl)|(simp only [← hji4];first|rfl|(simp [errW_none,errW_some] <;> rfl))|(simp [*,errW_none,errW_some] <;> rfl),by (with_reducible repeat (first|apply Kd.R_alloc|apply Kd.R_drewN|apply Kd.R_drew));exact Kd.R_mono (Kd.R_far (p:=⟨gb634,1,none⟩) (Kd.R_far (p:=⟨gb634,0,none⟩) (Kd.R_far (p:=⟨gb633,3,none⟩) (Kd.R_far (p:=⟨gb633,2,none⟩) (Kd.R_far (p:=⟨gb633,1,none⟩) (Kd.R_far (p:=⟨gb633,0,none⟩) (Kd.R_mono (Kd.R_types HO0_0.out BK633.out (by decide)) (fun k_ hk=> (⟨hk,hk.1.2.1⟩:_ ∧ k_ ≠ gb634))) (fun _ hk=> hk.1.2) (.slice (some ad635) l0_0.length co7)) (fun _ hk=> hk.1.2) (.int .i64 (wrap64 (a0_1 + 1)))) (fun _ hk=> hk.1.2) (.string a0_2)) (fun _ hk=> hk.1.2) (.int .i64 a0_3)) (fun _ hk=> hk.2) (.int .i64 ((rd_T79 l0_0 (ji4)).f0))) (fun _ hk=> hk.2) (.int .i64 ((rd_T79 l0_0 (ji4)).f1))) (fun _ hk=> hk.1.1.1),by repeat (first|(with_reducible first|exact HB.out|apply bwA|apply bwN|apply bwD|refine bwS ?_ GE632.out|refine bwS ?_ GE633.out|refine bwS ?_ GE634.out|refine bwS ?_ GE636.out)|exact HB.out),by repeat (first|(with_reducible first|exact HK.out|apply Kept.alloc|apply Kept.drewN|apply Kept.drew|refine Kept.setCell ?_ (.inr GW632.out) _|refine Kept.setCell ?_ (.inr GW633.out) _|refine Kept.setCell ?_ (.inr GW634.out) _|refine Kept.setCell ?_ (.inr GW636.out) _)|exact HK.out)⟩
        · rw [if_neg c6] at H
          exact absurd H (by simp)
      · rw [if_neg c5] at H
        exact absurd H (by simp)
  · rw [if_neg c2] at H
    have c2b0:decide (0 < (l0_0.length:Int))=false:=decide_eq_false c2
    have c2b1:decide (0 < l0_0.length)=false:=decide_eq_false (by omega)
    clear c2
    by_cases c28:a0_2.size + 4 ≤ 9223372036854775807
    · rw [if_pos c28] at H
      have c28b0:=eq_true c28
      have c28b1:decide (a0_2.size + 4 ≤ 9223372036854775807)=true:=decide_eq_true c28
      try have c28b2:(9223372036854775807 < a0_2.size + 4)=False:=eq_false (Nat.not_lt.2 c28)
      replace H:=Option.bind_eq_some_iff.mp H
      obtain ⟨t637,A290,H⟩:=H
      replace H:(if (a0_2 ++ (⟨#[100,114,97,119]⟩:ByteArray)).size + (strOfNums t637).size ≤ 9223372036854775807 then ((spec_l03Hash.f ((a0_2 ++ (⟨#[100,114,97,119]⟩:ByteArray)) ++ (strOfNums t637))).bind fun t640=> (if 0 ≤ 8 then (if 8 ≤ (t640.size:Int) then ((spec_l05Field.f k (t640.extract 0 8)).bind fun t641=> (if 8 ≤ 16 then (if 16 ≤ (t640.size:Int) then ((spec_l05Field.f k (t640.extract 8 16)).bind fun t642=> (some (l0_0,a0_1,a0_2,wrap64 (a0_3 + 1),t641,t642))) else (none)) else (none))) else (none)) else (none))) else (none))=some (r1,r2,r3,r4,r5,r6):=H
      have A29:=Aside0.mk A290
      clear A290
      by_cases c30:(a0_2 ++ (⟨#[100,114,97,119]⟩:ByteArray)).size + (strOfNums t637).size ≤ 9223372036854775807
      · rw [if_pos c30] at H
        have c30b0:=eq_true c30
        have c30b1:decide ((a0_2 ++ (⟨#[100,114,97,119]⟩:ByteArray)).size + (strOfNums t637).size ≤ 9223372036854775807)=true:=decide_eq_true c30
        try have c30b2:(9223372036854775807 < (a0_2 ++ (⟨#[100,114,97,119]⟩:ByteArray)).size + (strOfNums t637).size)=False:=eq_false (Nat.not_lt.2 c30)
        try have c30b3:(9223372036854775807 < a0_2.size + 4 + (strOfNums t637).size)=False:=by have h_:=c30b2;simp only [ByteArray.size_append] at h_;exact h_
        replace H:=Option.bind_eq_some_iff.mp H
        obtain ⟨t640,A310,H⟩:=H
        replace H:(if 0 ≤ 8 then (if 8 ≤ (t640.size:Int) then ((spec_l05Field.f k (t640.extract 0 8)).bind fun t641=> (if 8 ≤ 16 then (if 16 ≤ (t640.size:Int) then ((spec_l05Field.f k (t640.extract 8 16)).bind fun t642=> (some (l0_0,a0_1,a0_2,wrap64 (a0_3 + 1),t641,t642))) else (none)) else (none))) else (none)) else (none))=some (r1,r2,r3,r4,r5,r6):=H
        have A31:=Aside0.mk A310
        clear A310
        by_cases c32:0 ≤ 8
        · rw [if_pos c32] at H
          have c32b0:=eq_true c32
          have c32b1:decide (0 ≤ 8)=true:=decide_eq_true c32
          clear c32
          by_cases c33:8 ≤ (t640.size:Int)
          · rw [if_pos c33] at H
            have c33b0:=eq_true c33
            have c33b1:decide (8 ≤ (t640.size:Int))=true:=decide_eq_true c33
            clear c33
            replace H:=Option.bind_eq_some_iff.mp H
            obtain ⟨t641,A340,H⟩:=H
            replace H:(if 8 ≤ 16 then (if 16 ≤ (t640.size:Int) then ((spec_l05Field.f k (t640.extract 8 16)).bind fun t642=> (some (l0_0,a0_1,a0_2,wrap64 (a0_3 + 1),t641,t642))) else (none)) else (none))=some (r1,r2,r3,r4,r5,r6):=H
            have A34:=Aside0.mk A340
            clear A340
            by_cases c35:8 ≤ 16
            · rw [if_pos c35] at H
              have c35b0:=eq_true c35
              have c35b1:decide (8 ≤ 16)=true:=decide_eq_true c35
              clear c35
              by_cases c36:16 ≤ (t640.size:Int)
              · rw [if_pos c36] at H
                have c36b0:=eq_true c36
                have c36b1:decide (16 ≤ (t640.size:Int))=true:=decide_eq_true c36
                clear c36
                replace H:=Option.bind_eq_some_iff.mp H
                obtain ⟨t642,A370,H⟩:=H
                replace H:(some (l0_0,a0_1,a0_2,wrap64 (a0_3 + 1),t641,t642))=some (r1,r2,r3,r4,r5,r6):=H
                have A37:=Aside0.mk A370
                clear A370
                simp only [Option.some.injEq,Prod.mk.injEq] at H
                obtain ⟨rfl,rfl,rfl,rfl,rfl,rfl⟩:=H
                obtain ⟨Ao38,co38,eo38⟩:=Kd.R_slice HO0_0.out
                subst eo38
                go_enter Try.func132,Try.ntmps132
                try go_wp2_with (first|((with_reducible refine gate_dst (N:=1) rfl ?_);refine box_event ?hg (N:=1) ?hd (cs:= #[.slice Ao38 l0_0.length co38,.int .i64 a0_1,.string a0_2,.int .i64 a0_3]) (t:=36) ?hr ?_;(case hd=> rfl);(case hg=> rfl);(case hr=> first|(go_simp;done)|(go_simp;rfl));intro gb632 hg w39 hbox hb;have n0_:=Aside0.mk (Kd.R_below (by (with_reducible repeat (first|apply Kd.R_alloc|apply Kd.R_drewN|apply Kd.R_drew));exact HO0_0.out) hb);have n1_:=Aside0.mk (Kept.below (S:=(fun k_=> P0_0_ k_)) (by repeat (first|(with_reducible first|exact HK.out|apply Kept.alloc|apply Kept.drewN|apply Kept.drew)|exact HK.out)) hb);have n2_:=Aside0.mk (below_step (by repeat (first|(with_reducible first|exact HB.out|apply bwA|apply bwN|apply bwD)|exact HB.out)) hb);have n3_:=Aside0.mk (hbox);have n4_:=Aside0.mk ((by rw [hg];exact (by first|exact HK.out.1|exact (show Kept w _ (fun k_=> P0_0_ k_) from by repeat (first|(with_reducible first|exact HK.out|apply Kept.alloc|apply Kept.drewN|apply Kept.drew)|exact HK.out)).1):w.heap.size ≤ gb632));have n5_:=Aside0.mk ((by rw [hg];exact (below_size (by repeat (first|(with_reducible first|exact HB.out|apply bwA|apply bwN|apply bwD)|exact HB.out))):w0.heap.size ≤ gb632));clear HO0_0;clear HK;clear HB;have HO0_0:=n0_;have HK:=n1_;have HB:=n2_;have BK632:=n3_;have GW632:=n4_;have GE632:=n5_;clear n0_ n1_ n2_ n3_ n4_ n5_;clear hb hbox hg)|((with_reducible refine gate_dst (N:=2) rfl ?_);refine box_event ?hg (N:=2) ?hd (cs:= #[.slice none 0 0,.int .i64 0,.string (⟨#[]⟩:ByteArray),.int .i64 0]) (t:=36) ?hr ?_;(case hd=> rfl);(case hg=> rfl);(case hr=> first|(go_simp;done)|(go_simp;rfl));intro gb633 hg w40 hbox hb;have n0_:=Aside0.mk (Kd.R_below (by (with_reducible repeat (first|apply Kd.R_alloc|apply Kd.R_drewN|apply Kd.R_drew));exact HO0_0.out) hb);have n1_:=Aside0.mk (blk_below (g:=gb632) (o:= .cells #[.slice Ao38 l0_0.length co38,.int .i64 a0_1,.string a0_2,.int .i64 a0_3] 36 (0,0)) (by (with_reducible repeat (first|apply bN|apply bd|apply bA));exact BK632.out) hb);have n2_:=Aside0.mk (Kept.below (S:=(fun k_=> P0_0_ k_)) (by repeat (first|(with_reducible first|exact HK.out|apply Kept.alloc|apply Kept.drewN|apply Kept.drew|refine Kept.setCell ?_ (.inr GW632.out) _)|exact HK.out)) hb);have n3_:=Aside0.mk (below_step (by repeat (first|(with_reducible first|exact HB.out|apply bwA|apply bwN|apply bwD|refine bwS ?_ GE632.out)|exact HB.out)) hb);have n4_:=Aside0.mk (hbox);have n5_:=Aside0.mk ((by rw [hg];exact (by first|exact HK.out.1|exact (show Kept w _ (fun k_=> P0_0_ k_) from by repeat (first|(with_reducible first|exact HK.out|apply Kept.alloc|apply Kept.drewN|apply Kept.drew|refine Kept.setCell ?_ (.inr GW632.out) _)|exact HK.out)).1):w.heap.size ≤ gb633));have n6_:=Aside0.mk ((by rw [hg];exact (below_size (by repeat (first|(with_reducible first|exact HB.out|apply bwA|apply bwN|apply bwD|refine bwS ?_ GE632.out)|exact HB.out))):w0.heap.size ≤ gb633));have n7_:=Aside0.mk ((by rw [hg];exact Nat.ne_of_lt (blk_lt (g:=gb632) (o:= .cells #[.slice Ao38 l0_0.length co38,.int .i64 a0_1,.string a0_2,.int .i64 a0_3] 36 (0,0)) (by (with_reducible repeat (first|apply bN|apply bd|apply bA));exact BK632.out)):gb632 ≠ gb633));have n8_:=Aside0.mk ((by rw [hg];exact Nat.ne_of_gt (blk_lt (g:=gb632) (o:= .cells #[.slice Ao38 l0_0.length co38,.int .i64 a0_1,.string a0_2,.int .i64 a0_3] 36 (0,0)) (by (with_reducible repeat (first|apply bN|apply bd|apply bA));exact BK632.out)):gb633 ≠ gb632));clear HO0_0;clear BK632;clear HK;clear HB;have HO0_0:=n0_;have BK632:=n1_;have HK:=n2_;have HB:=n3_;have BK633:=n4_;have GW633:=n5_;have GE633:=n6_;have NB632_633:=n7_;have NB633_632:=n8_;clear n0_ n1_ n2_ n3_ n4_ n5_ n6_ n7_ n8_;clear hb hbox hg)|((with_reducible refine gate_dst (N:=3) rfl ?_);refine box_event ?hg (N:=3) ?hd (cs:= #[.int .i64 0,.int .i64 0]) (t:=79) ?hr ?_;(case hd=> rfl);(case hg=> rfl);(case hr=> first|(go_simp;done)|(go_simp;rfl));intro gb634 hg w41 hbox hb;have n0_:=Aside0.mk (Kd.R_below (Kd.R_elderB (by (with_reducible repeat (first|apply Kd.R_alloc|apply Kd.R_drewN|apply Kd.R_drew));exact HO0_0.out) gb634 (Nat.le_of_eq hg.symm)) hb);have n1_:=Aside0.mk (blk_below (g:=gb632) (o:= .cells #[.slice Ao38 l0_0.length co38,.int .i64 a0_1,.string a0_2,.int .i64 a0_3] 36 (0,0)) (by (with_reducible repeat (first|apply bN|apply bd|apply bA));exact BK632.out) hb);have n2_:=Aside0.mk (blk_below (g:=gb633) (o:= .cells #[.slice none 0 0,.int .i64 0,.string (⟨#[]⟩:ByteArray),.int .i64 0] 36 (0,0)) (by (with_reducible repeat (first|apply bN|apply bd|apply bA));exact BK633.out) hb);have n3_:=Aside0.mk (Kept.below (S:=(fun k_=> P0_0_ k_)) (by repeat (first|(with_reducible first|exact HK.out|apply Kept.alloc|apply Kept.drewN|apply Kept.drew|refine Kept.setCell ?_ (.inr GW632.out) _|refine Kept.setCell ?_ (.inr GW633.out) _)|exact HK.out)) hb);have n4_:=Aside0.mk (below_step (by repeat (first|(with_reducible first|exact HB.out|apply bwA|apply bwN|apply bwD|refine bwS ?_ GE632.out|refine bwS ?_ GE633.out)|exact HB.out)) hb);have n5_:=Aside0.mk (hbox);have n6_:=Aside0.mk ((by rw [hg];exact (by first|exact HK.out.1|exact (show Kept w _ (fun k_=> P0_0_ k_) from by repeat (first|(with_reducible first|exact HK.out|apply Kept.alloc|apply Kept.drewN|apply Kept.drew|refine Kept.setCell ?_ (.inr GW632.out) _|refine Kept.setCell ?_ (.inr GW633.out) _)|exact HK.out)).1):w.heap.size ≤ gb634));have n7_:=Aside0.mk ((by rw [hg];exact (below_size (by repeat (first|(with_reducible first|exact HB.out|apply bwA|apply bwN|apply bwD|refine bwS ?_ GE632.out|refine bwS ?_ GE633.out)|exact HB.out))):w0.heap.size ≤ gb634));have n8_:=Aside0.mk ((by rw [hg];exact Nat.ne_of_lt (blk_lt (g:=gb632) (o:= .cells #[.slice Ao38 l0_0.length co38,.int .i64 a0_1,.string a0_2,.int .i64 a0_3] 36 (0,0)) (by (with_reducible repeat (first|apply bN|apply bd|apply bA));exact BK632.out)):gb632 ≠ gb634));have n9_:=Aside0.mk ((by rw [hg];exact Nat.ne_of_gt (blk_lt (g:=gb632) (o:= .cells #[.slice Ao38 l0_0.length co38,.int .i64 a0_1,.string a0_2,.int .i64 a0_3] 36 (0,0)) (by (with_reducible repeat (first|apply bN|apply bd|apply bA));exact BK632.out)):gb634 ≠ gb632));have n10_:=Aside0.mk ((by rw [hg];exact Nat.ne_of_lt (blk_lt (g:=gb633) (o:= .cells #[.slice none 0 0,.int .i64 0,.string (⟨#[]⟩:ByteArray),.int .i64 0] 36 (0,0)) (by (with_reducible repeat (first|apply bN|apply bd|apply bA));exact BK633.out)):gb633 ≠ gb634));have n11_:=Aside0.mk ((by rw [hg];exact Nat.ne_of_gt (blk_lt (g:=gb633) (o:= .cells #[.slice none 0 0,.int .i64 0,.string (⟨#[]⟩:ByteArray),.int .i64 0] 36 (0,0)) (by (with_reducible repeat (first|apply bN|apply bd|apply bA));exact BK633.out)):gb634 ≠ gb633));clear HO0_0;clear BK632;clear BK633;clear HK;clear HB;have HO0_0:=n0_;have BK632:=n1_;have BK633:=n2_;have HK:=n3_;have HB:=n4_;have BK634:=n5_;have GW634:=n6_;have GE634:=n7_;have NB632_634:=n8_;have NB634_632:=n9_;have NB633_634:=n10_;have NB634_633:=n11_;clear n0_ n1_ n2_ n3_ n4_ n5_ n6_ n7_ n8_ n9_ n10_ n11_;clear hb hbox hg;have hnb42:=NB632_633.out;have hnc42:=NB633_632.out;have hnb43:=NB632_634.out;have hnc43:=NB634_632.out;have hcz44_0:w41.cell? ⟨gb632,0,none⟩=some (.slice Ao38 l0_0.length co38):=(blk_cell BK632.out 0).trans rfl;have hcz44_1:w41.cell? ⟨gb632,1,none⟩=some (.int .i64 a0_1):=(blk_cell BK632.out 1).trans rfl;have hcz44_2:w41.cell? ⟨gb632,2,none⟩=some (.string a0_2):=(blk_cell BK632.out 2).trans rfl;have hcz44_3:w41.cell? ⟨gb632,3,none⟩=some (.int .i64 a0_3):=(blk_cell BK632.out 3).trans rfl;have hfz44_0:=blk_frozen BK632.out 0;have hfz44_1:=blk_frozen BK632.out 1;have hfz44_2:=blk_frozen BK632.out 2;have hfz44_3:=blk_frozen BK632.out 3))
                have n0_:=Aside0.mk (Kd.R_drew HO0_0.out)
                have n1_:=Aside0.mk (blk_drew BK632.out)
                have n2_:=Aside0.mk (blk_drew BK633.out)
                have n3_:=Aside0.mk (blk_drew BK634.out)
                have n4_:=Aside0.mk (Kept.drew HK.out)
                have n5_:=Aside0.mk (bwD HB.out)
                clear HO0_0
                clear BK632
                clear BK633
                clear BK634
                clear HK
                clear HB
                have HO0_0:=n0_
                have BK632:=n1_
                have BK633:=n2_
                have BK634:=n3_
                have HK:=n4_
                have HB:=n5_
                clear n0_ n1_ n2_ n3_ n4_ n5_
                refine start_ (n:=10) (S:=fun w'=> w'.cell? ⟨gb632,0,none⟩=some (.slice Ao38 l0_0.length co38) ∧ w'.cell? ⟨gb632,1,none⟩=some (.int .i64 a0_1) ∧ w'.cell? ⟨gb632,2,none⟩=some (.string a0_2) ∧ w'.cell? ⟨gb632,3,none⟩=some (.int .i64 a0_3)) (ds:= []) #[false,false,false,false,false,false,false,false,false,false] (by kernel_rfl) rfl rfl ⟨(blk_cell BK632.out 0).trans rfl,(blk_cell BK632.out 1).trans rfl,(blk_cell BK632.out 2).trans rfl,(blk_cell BK632.out 3).trans rfl⟩ (fun hHeld=> ?_);refine with_tabW spec_l05Draw.tab5 spec_l05Draw.bits5 (fun HT_ HW_=> ?_)
                generalize w41.drew=w45 at HO0_0 BK632 BK633 BK634 HK HB hHeld ⊢
                refine pure_ (i:=0) (N:=some 26) (v:=?_) (a':=?_) #[true,false,false,false,false,false,false,false,false,false] rfl rfl (any_of HT_.out (by kernel_rfl)) (fun _ _ _ h=> h) (Or.inl ⟨by rfl,?_⟩) ?_ ?_
                rotate_left
                · intro w'
                  go_simp
                  with_reducible rfl
                rotate_left
                · simp only [Act.put,List.setIfInBounds_toArray,List.set_cons_zero,List.set_cons_succ,i64_w,i32_w]
                  rfl
                refine pure_ (i:=3) (N:=some 29) (v:=?_) (a':=?_) #[true,false,false,true,false,false,false,false,false,false] rfl rfl (any_of HT_.out (by kernel_rfl)) (fun _ _ _ h=> h) (Or.inl ⟨by rfl,?_⟩) ?_ ?_
                rotate_left
                · intro w'
                  go_simp
                  with_reducible rfl
                rotate_left
                · simp only [Act.put,List.setIfInBounds_toArray,List.set_cons_zero,List.set_cons_succ,i64_w,i32_w]
                  rfl
                refine take_ (i:=1) (N:=some 27) (v:=?_) (a':=?_) #[true,true,false,true,false,false,false,false,false,false] rfl rfl (take_ofW HT_.out HW_.out (by kernel_rfl)) (fun _ _ _ h=> h) (Or.inl ⟨by rfl,?_⟩) hHeld ?_ ?_
                rotate_left
                · rintro w' ⟨s0,s1,s2,s3⟩
                  go_simp
                  with_reducible rfl
                rotate_left
                · simp only [Act.put,List.setIfInBounds_toArray,List.set_cons_zero,List.set_cons_succ,i64_w,i32_w]
                  rfl
                refine pure_ (i:=2) (N:=some 28) (v:=?_) (a':=?_) #[true,true,true,true,false,false,false,false,false,false] rfl rfl (any_of HT_.out (by kernel_rfl)) (fun _ _ _ h=> h) (Or.inl ⟨by rfl,?_⟩) ?_ ?_
                rotate_left
                · intro w'
                  go_simp
                  with_reducible rfl
                rotate_left
                · simp only [Act.put,List.setIfInBounds_toArray,List.set_cons_zero,List.set_cons_succ,i64_w,i32_w]
                  rfl
                refine take_ (i:=4) (N:=some 30) (v:=?_) (a':=?_) #[true,true,true,true,true,false,false,false,false,false] rfl rfl (take_ofW HT_.out HW_.out (by kernel_rfl)) (fun _ _ _ h=> h) (Or.inl ⟨by rfl,?_⟩) hHeld ?_ ?_
                rotate_left
                · rintro w' ⟨s0,s1,s2,s3⟩
                  go_simp
                  with_reducible rfl
                rotate_left
                · simp only [Act.put,List.setIfInBounds_toArray,List.set_cons_zero,List.set_cons_succ,i64_w,i32_w]
                  rfl
                refine one_ (i:=5) (N:=some 31) #[true,true,true,true,true,true,false,false,false,false] rfl rfl (one_of HT_.out (by kernel_rfl)) (by decide) (fun K hK=> ?_)
                refine goes_ Try.func148 (by kernel_rfl) rfl #[.int .i64 a0_3,.int .i64 4] (by rfl) rfl rfl (by (try simp only [List.map_toArray,List.map_cons,List.map_nil]);first|done|rfl|(simp only [List.length_drop,List.length_take];rfl)) ?_
                with_reducible refine (spec_l02Number.calls k a0_3 4 t637 _ A29.out).mono ?_
                rintro e w46 ⟨v638,rfl,ho0,hb⟩
                refine ⟨_,rfl,?_⟩
                have n0_:=Aside0.mk (Kd.R_below (by (with_reducible repeat (first|apply Kd.R_alloc|apply Kd.R_drewN|apply Kd.R_drew));exact HO0_0.out) hb)
                have n1_:=Aside0.mk (Kd.R_lower (Kd.R_newM (M:=fun k_=> (P0_0_ k_ ∨ w.heap.size ≤ k_)) ho0 (by first|exact HK.out.1|exact (show Kept w _ (fun k_=> P0_0_ k_) from by repeat (first|(with_reducible first|exact HK.out|apply Kept.alloc|apply Kept.drewN|apply Kept.drew|refine Kept.setCell ?_ (.inr GW632.out) _|refine Kept.setCell ?_ (.inr GW633.out) _|refine Kept.setCell ?_ (.inr GW634.out) _)|exact HK.out)).1) (fun k_ h_=> .inr h_)) (below_size (by repeat (first|(with_reducible first|exact HB.out|apply bwA|apply bwN|apply bwD|refine bwS ?_ GE632.out|refine bwS ?_ GE633.out|refine bwS ?_ GE634.out)|exact HB.out))))
                have n2_:=Aside0.mk (blk_below (g:=gb632) (o:= .cells #[.slice Ao38 l0_0.length co38,.int .i64 a0_1,.string a0_2,.int .i64 a0_3] 36 (0,0)) (by (with_reducible repeat (first|apply bN|apply bd|apply bA));exact BK632.out) hb)
                have n3_:=Aside0.mk (blk_below (g:=gb633) (o:= .cells #[.slice none 0 0,.int .i64 0,.string (⟨#[]⟩:ByteArray),.int .i64 0] 36 (0,0)) (by (with_reducible repeat (first|apply bN|apply bd|apply bA));exact BK633.out) hb)
                have n4_:=Aside0.mk (blk_below (g:=gb634) (o:= .cells #[.int .i64 0,.int .i64 0] 79 (0,0)) (by (with_reducible repeat (first|apply bN|apply bd|apply bA));exact BK634.out) hb)
                have n5_:=Aside0.mk (Kept.below (S:=(fun k_=> P0_0_ k_)) (by repeat (first|(with_reducible first|exact HK.out|apply Kept.alloc|apply Kept.drewN|apply Kept.drew|refine Kept.setCell ?_ (.inr GW632.out) _|refine Kept.setCell ?_ (.inr GW633.out) _|refine Kept.setCell ?_ (.inr GW634.out) _)|exact HK.out)) hb)
                have n6_:=Aside0.mk (below_step (by repeat (first|(with_reducible first|exact HB.out|apply bwA|apply bwN|apply bwD|refine bwS ?_ GE632.out|refine bwS ?_ GE633.out|refine bwS ?_ GE634.out)|exact HB.out)) hb)
                clear HO0_0
                clear BK632
                clear BK633
                clear BK634
                clear HK
                clear HB
                have HO0_0:=n0_
                have HO639:=n1_
                have BK632:=n2_
                have BK633:=n3_
                have BK634:=n4_
                have HK:=n5_
                have HB:=n6_
                clear n0_ n1_ n2_ n3_ n4_ n5_ n6_
                (try clear hb)
                (try clear hb2)
                (try clear hk)
                (try clear hi)
                (try clear ho0)
                refine hK.out _ _ ⟨(blk_cell BK632.out 0).trans rfl,(blk_cell BK632.out 1).trans rfl,(blk_cell BK632.out 2).trans rfl,(blk_cell BK632.out 3).trans rfl⟩ (fun hHeld=> ?_)
                clear hK K
                refine norm_ (a':=?_) ?_ ?_
                rotate_left
                · show Act.put _ (some 31) _=_
                  simp only [Act.put,List.setIfInBounds_toArray,List.set_cons_zero,List.set_cons_succ,i64_w,i32_w]
                  rfl
                refine one_ (i:=6) (N:=some 32) #[true,true,true,true,true,true,true,false,false,false] rfl rfl (one_of HT_.out (by kernel_rfl)) (by decide) (fun K hK=> ?_)
                have hcv47:=own_string (P:=Try.prog) Try.underlying25 Try.underlying5 Try.underlying9 (Kd.own_of_R HO639.out)
                refine value_ (w1:=?_) (v:=?_) (by rfl) rfl ?_ ?_
                rotate_left 2
                · go_simp
                  constructor
                  · rfl
                  · rfl
                clear hcv47
                refine hK.out _ _ ⟨(blk_cell BK632.out 0).trans rfl,(blk_cell BK632.out 1).trans rfl,(blk_cell BK632.out 2).trans rfl,(blk_cell BK632.out 3).trans rfl⟩ (fun hHeld=> ?_)
                clear hK K
                refine norm_ (a':=?_) ?_ ?_
                rotate_left
                · show Act.put _ (some 32) _=_
                  simp only [Act.put,List.setIfInBounds_toArray,List.set_cons_zero,List.set_cons_succ,i64_w,i32_w]
                  rfl
                refine pure_ (i:=7) (N:=some 33) (v:=?_) (a':=?_) #[true,true,true,true,true,true,true,true,false,false] rfl rfl (any_of HT_.out (by kernel_rfl)) (fun _ _ _ h=> h) (Or.inl ⟨by rfl,?_⟩) ?_ ?_
                rotate_left
                · intro w'
                  go_simp
                  with_reducible rfl
                rotate_left
                · simp only [Act.put,List.setIfInBounds_toArray,List.set_cons_zero,List.set_cons_succ,i64_w,i32_w]
                  rfl
                refine one_ (i:=8) (N:=some 34) #[true,true,true,true,true,true,true,true,true,false] rfl rfl (one_of HT_.out (by kernel_rfl)) (by decide) (fun K hK=> ?_)
                refine goes_ Try.func87 (by kernel_rfl) rfl #[.string ((a0_2 ++ (⟨#[100,114,97,119]⟩:ByteArray)) ++ (strOfNums t637))] (by rfl) rfl rfl (by (try simp only [List.map_toArray,List.map_cons,List.map_nil]);first|done|rfl|(simp only [List.length_drop,List.length_take];rfl)) ?_
                with_reducible refine (spec_l03Hash.calls ((a0_2 ++ (⟨#[100,114,97,119]⟩:ByteArray)) ++ (strOfNums t637)) t640 _ A31.out).mono ?_
                rintro e w48 ⟨rfl,hb⟩
                refine ⟨_,rfl,?_⟩
                have n0_:=Aside0.mk (Kd.R_below (by (with_reducible repeat (first|apply Kd.R_alloc|apply Kd.R_drewN|apply Kd.R_drew));exact HO0_0.out) hb)
                have n1_:=Aside0.mk (Kd.R_below (by (with_reducible repeat (first|apply Kd.R_alloc|apply Kd.R_drewN|apply Kd.R_drew));exact HO639.out) hb)
                have n2_:=Aside0.mk (blk_below (g:=gb632) (o:= .cells #[.slice Ao38 l0_0.length co38,.int .i64 a0_1,.string a0_2,.int .i64 a0_3] 36 (0,0)) (by (with_reducible repeat (first|apply bN|apply bd|apply bA));exact BK632.out) hb)
                have n3_:=Aside0.mk (blk_below (g:=gb633) (o:= .cells #[.slice none 0 0,.int .i64 0,.string (⟨#[]⟩:ByteArray),.int .i64 0] 36 (0,0)) (by (with_reducible repeat (first|apply bN|apply bd|apply bA));exact BK633.out) hb)
                have n4_:=Aside0.mk (blk_below (g:=gb634) (o:= .cells #[.int .i64 0,.int .i64 0] 79 (0,0)) (by (with_reducible repeat (first|apply bN|apply bd|apply bA));exact BK634.out) hb)
                have n5_:=Aside0.mk (Kept.below (S:=(fun k_=> P0_0_ k_)) (by repeat (first|(with_reducible first|exact HK.out|apply Kept.alloc|apply Kept.drewN|apply Kept.drew|refine Kept.setCell ?_ (.inr GW632.out) _|refine Kept.setCell ?_ (.inr GW633.out) _|refine Kept.setCell ?_ (.inr GW634.out) _)|exact HK.out)) hb)
                have n6_:=Aside0.mk (below_step (by repeat (first|(with_reducible first|exact HB.out|apply bwA|apply bwN|apply bwD|refine bwS ?_ GE632.out|refine bwS ?_ GE633.out|refine bwS ?_ GE634.out)|exact HB.out)) hb)
                clear HO0_0
                clear HO639
                clear BK632
                clear BK633
                clear BK634
                clear HK
                clear HB
                have HO0_0:=n0_
                have HO639:=n1_
                have BK632:=n2_
                have BK633:=n3_
                have BK634:=n4_
                have HK:=n5_
                have HB:=n6_
                clear n0_ n1_ n2_ n3_ n4_ n5_ n6_
                (try clear hb)
                (try clear hb2)
                (try clear hk)
                (try clear hi)
                refine hK.out _ _ ⟨(blk_cell BK632.out 0).trans rfl,(blk_cell BK632.out 1).trans rfl,(blk_cell BK632.out 2).trans rfl,(blk_cell BK632.out 3).trans rfl⟩ (fun hHeld=> ?_)
                clear hK K
                refine norm_ (a':=?_) ?_ ?_
                rotate_left
                · show Act.put _ (some 34) _=_
                  simp only [Act.put,List.setIfInBounds_toArray,List.set_cons_zero,List.set_cons_succ,i64_w,i32_w]
                  rfl
                refine pure_ (i:=9) (N:=some 5) (v:=?_) (a':=?_) #[true,true,true,true,true,true,true,true,true,true] rfl rfl (any_of HT_.out (by kernel_rfl)) (fun _ _ _ h=> h) (Or.inl ⟨by rfl,?_⟩) ?_ ?_
                rotate_left
                · intro w'
                  go_simp
                  with_reducible rfl
                rotate_left
                · simp only [Act.put,List.setIfInBounds_toArray,List.set_cons_zero,List.set_cons_succ,i64_w,i32_w]
                  rfl
                refine done_ (done_of HT_.out (by kernel_rfl)) ?_
                have hcz49_0:w48.cell? ⟨gb632,0,none⟩=some (.slice Ao38 l0_0.length co38):=(blk_cell BK632.out 0).trans rfl
                have hcz49_1:w48.cell? ⟨gb632,1,none⟩=some (.int .i64 a0_1):=(blk_cell BK632.out 1).trans rfl
                have hcz49_2:w48.cell? ⟨gb632,2,none⟩=some (.string a0_2):=(blk_cell BK632.out 2).trans rfl
                have hcz49_3:w48.cell? ⟨gb632,3,none⟩=some (.int .i64 a0_3):=(blk_cell BK632.out 3).trans rfl
                have hfz49_0:=blk_frozen BK632.out 0
                have hfz49_1:=blk_frozen BK632.out 1
                have hfz49_2:=blk_frozen BK632.out 2
                have hfz49_3:=blk_frozen BK632.out 3
                try go_wp2
                have n0_:Aside0 (Kd.R k79 79 (w48.setCell ⟨gb632,3,none⟩ (.int .i64 (wrap64 (a0_3 + 1)))) w0.heap.size (fun k_=> (P0_0_ k_ ∨ w.heap.size ≤ k_) ∧ k_ ≠ gb634) (.slice Ao38 l0_0.length co38) l0_0):=⟨by (with_reducible repeat (first|apply Kd.R_alloc|apply Kd.R_drewN|apply Kd.R_drew));exact Kd.R_mono (Kd.R_far (p:=⟨gb632,3,none⟩) (Kd.R_types HO0_0.out BK632.out (by decide)) (fun _ hk=> hk.2) (.int .i64 (wrap64 (a0_3 + 1)))) (fun _ hk=> ⟨hk.1.1,hk.1.2⟩)⟩
                have n1_:Aside0 (Kd.R (Kd.int .u8) 5 (w48.setCell ⟨gb632,3,none⟩ (.int .i64 (wrap64 (a0_3 + 1)))) w0.heap.size (fun k_=> (P0_0_ k_ ∨ w.heap.size ≤ k_)) v638 t637):=⟨by (with_reducible repeat (first|apply Kd.R_alloc|apply Kd.R_drewN|apply Kd.R_drew));exact Kd.R_mono (Kd.R_far (p:=⟨gb632,3,none⟩) (Kd.R_types HO639.out BK632.out (by decide)) (fun _ hk=> hk.2) (.int .i64 (wrap64 (a0_3 + 1)))) (fun _ hk=> hk.1.1)⟩
                have n2_:Aside0 ((w48.setCell ⟨gb632,3,none⟩ (.int .i64 (wrap64 (a0_3 + 1)))).heap[gb632]?=some (.cells #[.slice Ao38 l0_0.length co38,.int .i64 a0_1,.string a0_2,.int .i64 (wrap64 (a0_3 + 1))] 36 (0,0))):=⟨by (with_reducible repeat (first|apply bN|apply bd|apply bA));refine blk_put (cs:= #[.slice Ao38 l0_0.length co38,.int .i64 a0_1,.string a0_2,.int .i64 a0_3]) ?_ 3 _ rfl;(with_reducible repeat (first|apply bN|apply bd|apply bA));exact BK632.out⟩
                have n3_:Aside0 ((w48.setCell ⟨gb632,3,none⟩ (.int .i64 (wrap64 (a0_3 + 1)))).heap[gb633]?=some (.cells #[.slice none 0 0,.int .i64 0,.string (⟨#[]⟩:ByteArray),.int .i64 0] 36 (0,0))):=⟨by (with_reducible repeat (first|apply bN|apply bd|apply bA));refine blk_far ?_ NB633_632.out _;(with_reducible repeat (first|apply bN|apply bd|apply bA));exact BK633.out⟩
                have n4_:Aside0 ((w48.setCell ⟨gb632,3,none⟩ (.int .i64 (wrap64 (a0_3 + 1)))).heap[gb634]?=some (.cells #[.int .i64 0,.int .i64 0] 79 (0,0))):=⟨by (with_reducible repeat (first|apply bN|apply bd|apply bA));refine blk_far ?_ NB634_632.out _;(with_reducible repeat (first|apply bN|apply bd|apply bA));exact BK634.out⟩
                have n5_:Aside0 (Kept w (w48.setCell ⟨gb632,3,none⟩ (.int .i64 (wrap64 (a0_3 + 1)))) (fun k_=> P0_0_ k_)):=⟨by repeat (first|(with_reducible first|exact HK.out|apply Kept.alloc|apply Kept.drewN|apply Kept.drew|refine Kept.setCell ?_ (.inr GW632.out) _|refine Kept.setCell ?_ (.inr GW633.out) _|refine Kept.setCell ?_ (.inr GW634.out) _)|exact HK.out)⟩
                have n6_:Aside0 (Below w0.heap.size w0 (w48.setCell ⟨gb632,3,none⟩ (.int .i64 (wrap64 (a0_3 + 1))))):=⟨by repeat (first|(with_reducible first|exact HB.out|apply bwA|apply bwN|apply bwD|refine bwS ?_ GE632.out|refine bwS ?_ GE633.out|refine bwS ?_ GE634.out)|exact HB.out)⟩
                (try clear HO0_0)
                (try clear HO639)
                (try clear BK632)
                (try clear BK633)
                (try clear BK634)
                (try clear HK)
                (try clear HB)
                generalize (w48.setCell ⟨gb632,3,none⟩ (.int .i64 (wrap64 (a0_3 + 1))))=w50 at n0_ n1_ n2_ n3_ n4_ n5_ n6_ ⊢
                have HO0_0:=n0_
                have HO639:=n1_
                have BK632:=n2_
                have BK633:=n3_
                have BK634:=n4_
                have HK:=n5_
                have HB:=n6_
                clear n0_ n1_ n2_ n3_ n4_ n5_ n6_
                have n0_:=Aside0.mk (Kd.R_drew HO0_0.out)
                have n1_:=Aside0.mk (Kd.R_drew HO639.out)
                have n2_:=Aside0.mk (blk_drew BK632.out)
                have n3_:=Aside0.mk (blk_drew BK633.out)
                have n4_:=Aside0.mk (blk_drew BK634.out)
                have n5_:=Aside0.mk (Kept.drew HK.out)
                have n6_:=Aside0.mk (bwD HB.out)
                clear HO0_0
                clear HO639
                clear BK632
                clear BK633
                clear BK634
                clear HK
                clear HB
                have HO0_0:=n0_
                have HO639:=n1_
                have BK632:=n2_
                have BK633:=n3_
                have BK634:=n4_
                have HK:=n5_
                have HB:=n6_
                clear n0_ n1_ n2_ n3_ n4_ n5_ n6_
                refine start_ (n:=10) (S:=fun w'=> w'.cell? ⟨gb632,0,none⟩=some (.slice Ao38 l0_0.length co38) ∧ w'.cell? ⟨gb632,1,none⟩=some (.int .i64 a0_1) ∧ w'.cell? ⟨gb632,2,none⟩=some (.string a0_2) ∧ w'.cell? ⟨gb632,3,none⟩=some (.int .i64 (wrap64 (a0_3 + 1)))) (ds:= []) #[false,false,false,false,false,false,false,false,false,false] (by kernel_rfl) rfl rfl ⟨(blk_cell BK632.out 0).trans rfl,(blk_cell BK632.out 1).trans rfl,(blk_cell BK632.out 2).trans rfl,(blk_cell BK632.out 3).trans rfl⟩ (fun hHeld=> ?_);refine with_tabW spec_l05Draw.tab7 spec_l05Draw.bits7 (fun HT_ HW_=> ?_)
                generalize w50.drew=w51 at HO0_0 HO639 BK632 BK633 BK634 HK HB hHeld ⊢
                refine pure_ (i:=1) (N:=some 40) (v:=?_) (a':=?_) #[false,true,false,false,false,false,false,false,false,false] rfl rfl (any_of HT_.out (by kernel_rfl)) (fun _ _ _ h=> h) (Or.inl ⟨by rfl,?_⟩) ?_ ?_
                rotate_left
                · intro w'
                  go_simp
                  with_reducible rfl
                rotate_left
                · simp only [Act.put,List.setIfInBounds_toArray,List.set_cons_zero,List.set_cons_succ,i64_w,i32_w]
                  rfl
                refine pure_ (i:=2) (N:=some 41) (v:=?_) (a':=?_) #[false,true,true,false,false,false,false,false,false,false] rfl rfl (any_of HT_.out (by kernel_rfl)) (fun _ _ _ h=> h) (Or.inl ⟨by rfl,?_⟩) ?_ ?_
                rotate_left
                · intro w'
                  go_simp
                  with_reducible rfl
                rotate_left
                · simp only [Act.put,List.setIfInBounds_toArray,List.set_cons_zero,List.set_cons_succ,i64_w,i32_w]
                  rfl
                refine pure_ (i:=4) (N:=some 43) (v:=?_) (a':=?_) #[false,true,true,false,true,false,false,false,false,false] rfl rfl (any_of HT_.out (by kernel_rfl)) (fun _ _ _ h=> h) (Or.inl ⟨by rfl,?_⟩) ?_ ?_
                rotate_left
                · intro w'
                  go_simp
                  with_reducible rfl
                rotate_left
                · simp only [Act.put,List.setIfInBounds_toArray,List.set_cons_zero,List.set_cons_succ,i64_w,i32_w]
                  rfl
                refine pure_ (i:=5) (N:=some 44) (v:=?_) (a':=?_) #[false,true,true,false,true,true,false,false,false,false] rfl rfl (any_of HT_.out (by kernel_rfl)) (fun _ _ _ h=> h) (Or.inl ⟨by rfl,?_⟩) ?_ ?_
                rotate_left
                · intro w'
                  go_simp
                  with_reducible rfl
                rotate_left
                · simp only [Act.put,List.setIfInBounds_toArray,List.set_cons_zero,List.set_cons_succ,i64_w,i32_w]
                  rfl
                refine take_ (i:=0) (N:=some 39) (v:=?_) (a':=?_) #[true,true,true,false,true,true,false,false,false,false] rfl rfl (take_ofW HT_.out HW_.out (by kernel_rfl)) (fun _ _ _ h=> h) (Or.inl ⟨by rfl,?_⟩) hHeld ?_ ?_
                rotate_left
                · rintro w' ⟨s0,s1,s2,s3⟩
                  go_simp
                  with_reducible rfl
                rotate_left
                · simp only [Act.put,List.setIfInBounds_toArray,List.set_cons_zero,List.set_cons_succ,i64_w,i32_w]
                  rfl
                refine one_ (i:=3) (N:=some 42) #[true,true,true,true,true,true,false,false,false,false] rfl rfl (one_of HT_.out (by kernel_rfl)) (by decide) (fun K hK=> ?_)
                refine goes_ Try.func157 (by kernel_rfl) rfl #[.string (t640.extract 0 8)] (by rfl) rfl rfl (by (try simp only [List.map_toArray,List.map_cons,List.map_nil]);first|done|rfl|(simp only [List.length_drop,List.length_take];rfl)) ?_
                with_reducible refine (spec_l05Field.calls k (t640.extract 0 8) t641 _ A34.out).mono ?_
                rintro e w' ⟨rfl,⟨nd,rfl⟩⟩
                refine ⟨_,rfl,?_⟩
                refine hK.out _ _ ⟨(blk_cell BK632.out 0).trans rfl,(blk_cell BK632.out 1).trans rfl,(blk_cell BK632.out 2).trans rfl,(blk_cell BK632.out 3).trans rfl⟩ (fun hHeld=> ?_)
                clear hK K
                refine norm_ (a':=?_) ?_ ?_
                rotate_left
                · show Act.put _ (some 42) _=_
                  simp only [Act.put,List.setIfInBounds_toArray,List.set_cons_zero,List.set_cons_succ,i64_w,i32_w]
                  rfl
                refine one_ (i:=6) (N:=some 45) #[true,true,true,true,true,true,true,false,false,false] rfl rfl (one_of HT_.out (by kernel_rfl)) (by decide) (fun K hK=> ?_)
                refine goes_ Try.func157 (by kernel_rfl) rfl #[.string (t640.extract 8 16)] (by rfl) rfl rfl (by (try simp only [List.map_toArray,List.map_cons,List.map_nil]);first|done|rfl|(simp only [List.length_drop,List.length_take];rfl)) ?_
                with_reducible refine (spec_l05Field.calls k (t640.extract 8 16) t642 _ A37.out).mono ?_
                rintro e w' ⟨rfl,⟨nd,rfl⟩⟩
                refine ⟨_,rfl,?_⟩
                refine hK.out _ _ ⟨(blk_cell BK632.out 0).trans rfl,(blk_cell BK632.out 1).trans rfl,(blk_cell BK632.out 2).trans rfl,(blk_cell BK632.out 3).trans rfl⟩ (fun hHeld=> ?_)
                clear hK K
                refine norm_ (a':=?_) ?_ ?_
                rotate_left
                · show Act.put _ (some 45) _=_
                  simp only [Act.put,List.setIfInBounds_toArray,List.set_cons_zero,List.set_cons_succ,i64_w,i32_w]
                  rfl
                refine pure_ (i:=7) (N:=some 46) (v:=?_) (a':=?_) #[true,true,true,true,true,true,true,true,false,false] rfl rfl (any_of HT_.out (by kernel_rfl)) (fun _ _ _ h=> h) (Or.inl ⟨by rfl,?_⟩) ?_ ?_
                rotate_left
                · intro w'
                  go_simp
                  with_reducible rfl
                rotate_left
                · simp only [Act.put,List.setIfInBounds_toArray,List.set_cons_zero,List.set_cons_succ,i64_w,i32_w]
                  rfl
                refine one_ (i:=8) (N:=none) #[true,true,true,true,true,true,true,true,true,false] rfl rfl (one_of HT_.out (by kernel_rfl)) (by decide) (fun K hK=> ?_)
                have hs52:w51.cell? ⟨gb633,0,none⟩=some (.slice none 0 0):=(blk_cell BK633.out 0).trans rfl
                have hfs52:=blk_frozen BK633.out 0
                have hns52_0:=NB632_633.out
                have hns52_2:=NB634_633.out
                have hms52_0:=NB633_632.out
                have hms52_2:=NB633_634.out
                have hs53:w51.cell? ⟨gb633,1,none⟩=some (.int .i64 0):=(blk_cell BK633.out 1).trans rfl
                have hfs53:=blk_frozen BK633.out 1
                have hns53_0:=NB632_633.out
                have hns53_2:=NB634_633.out
                have hms53_0:=NB633_632.out
                have hms53_2:=NB633_634.out
                have hs54:w51.cell? ⟨gb633,2,none⟩=some (.string (⟨#[]⟩:ByteArray)):=(blk_cell BK633.out 2).trans rfl
                have hfs54:=blk_frozen BK633.out 2
                have hns54_0:=NB632_633.out
                have hns54_2:=NB634_633.out
                have hms54_0:=NB633_632.out
                have hms54_2:=NB633_634.out
                have hs55:w51.cell? ⟨gb633,3,none⟩=some (.int .i64 0):=(blk_cell BK633.out 3).trans rfl
                have hfs55:=blk_frozen BK633.out 3
                have hns55_0:=NB632_633.out
                have hns55_2:=NB634_633.out
                have hms55_0:=NB633_632.out
                have hms55_2:=NB633_634.out
                refine skip_ (w1:=?_) (by rfl) rfl ?_ ?_
                rotate_left
                · go_simp
                  rfl
                refine hK.out _ _ ⟨((cell_far (p:=⟨gb633,_,none⟩) NB632_633.out _).trans (((cell_far (p:=⟨gb633,_,none⟩) NB632_633.out _).trans (((cell_far (p:=⟨gb633,_,none⟩) NB632_633.out _).trans (((cell_far (p:=⟨gb633,_,none⟩) NB632_633.out _).trans (hHeld.1)))))))),((cell_far (p:=⟨gb633,_,none⟩) NB632_633.out _).trans (((cell_far (p:=⟨gb633,_,none⟩) NB632_633.out _).trans (((cell_far (p:=⟨gb633,_,none⟩) NB632_633.out _).trans (((cell_far (p:=⟨gb633,_,none⟩) NB632_633.out _).trans (hHeld.2.1)))))))),((cell_far (p:=⟨gb633,_,none⟩) NB632_633.out _).trans (((cell_far (p:=⟨gb633,_,none⟩) NB632_633.out _).trans (((cell_far (p:=⟨gb633,_,none⟩) NB632_633.out _).trans (((cell_far (p:=⟨gb633,_,none⟩) NB632_633.out _).trans (hHeld.2.2.1)))))))),((cell_far (p:=⟨gb633,_,none⟩) NB632_633.out _).trans (((cell_far (p:=⟨gb633,_,none⟩) NB632_633.out _).trans (((cell_far (p:=⟨gb633,_,none⟩) NB632_633.out _).trans (((cell_far (p:=⟨gb633,_,none⟩) NB632_633.out _).trans (hHeld.2.2.2))))))))⟩ (fun hHeld=> ?_)
                clear hK K
                refine one_ (i:=9) (N:=none) #[true,true,true,true,true,true,true,true,true,true] rfl rfl (one_of HT_.out (by kernel_rfl)) (by decide) (fun K hK=> ?_)
                have hs56:w51.cell? ⟨gb634,0,none⟩=some (.int .i64 0):=(blk_cell BK634.out 0).trans rfl
                have hfs56:=blk_frozen BK634.out 0
                have hns56_0:=NB632_634.out
                have hns56_1:=NB633_634.out
                have hms56_0:=NB634_632.out
                have hms56_1:=NB634_633.out
                have hs57:w51.cell? ⟨gb634,1,none⟩=some (.int .i64 0):=(blk_cell BK634.out 1).trans rfl
                have hfs57:=blk_frozen BK634.out 1
                have hns57_0:=NB632_634.out
                have hns57_1:=NB633_634.out
                have hms57_0:=NB634_632.out
                have hms57_1:=NB634_633.out
                refine skip_ (w1:=?_) (by rfl) rfl ?_ ?_
                rotate_left
                · go_simp
                  rfl
                refine hK.out _ _ ⟨((cell_far (p:=⟨gb634,_,none⟩) NB632_634.out _).trans (((cell_far (p:=⟨gb634,_,none⟩) NB632_634.out _).trans (hHeld.1)))),((cell_far (p:=⟨gb634,_,none⟩) NB632_634.out _).trans (((cell_far (p:=⟨gb634,_,none⟩) NB632_634.out _).trans (hHeld.2.1)))),((cell_far (p:=⟨gb634,_,none⟩) NB632_634.out _).trans (((cell_far (p:=⟨gb634,_,none⟩) NB632_634.out _).trans (hHeld.2.2.1)))),((cell_far (p:=⟨gb634,_,none⟩) NB632_634.out _).trans (((cell_far (p:=⟨gb634,_,none⟩) NB632_634.out _).trans (hHeld.2.2.2))))⟩ (fun hHeld=> ?_)
                clear hK K
                refine done_ (done_of HT_.out (by kernel_rfl)) ?_
                try go_wp2
                refine bodyPost_ret (results_cc rfl _ _ gb633 gb634 36 79 #[.slice Ao38 l0_0.length co38,.int .i64 a0_1,.string a0_2,.int .i64 (wrap64 (a0_3 + 1))] #[.int .i64 t641,.int .i64 t642] (0,0) (0,0) _ _ rfl (by (with_reducible repeat (first|apply bN|apply bd|apply bA));refine blk_far ?_ NB633_634.out _;(with_reducible repeat (first|apply bN|apply bd|apply bA));refine blk_far ?_ NB633_634.out _;(with_reducible repeat (first|apply bN|apply bd|apply bA));refine blk_put (cs:= #[.slice Ao38 l0_0.length co38,.int .i64 a0_1,.string a0_2,.int .i64 0]) ?_ 3 _ rfl;(with_reducible repeat (first|apply bN|apply bd|apply bA));refine blk_put (cs:= #[.slice Ao38 l0_0.length co38,.int .i64 a0_1,.string (⟨#[]⟩:ByteArray),.int .i64 0]) ?_ 2 _ rfl;(with_reducible repeat (first|apply bN|apply bd|apply bA));refine blk_put (cs:= #[.slice Ao38 l0_0.length co38,.int .i64 0,.string (⟨#[]⟩:ByteArray),.int .i64 0]) ?_ 1 _ rfl;(with_reducible repeat (first|apply bN|apply bd|apply bA));refine blk_put (cs:= #[.slice none 0 0,.int .i64 0,.string (⟨#[]⟩:ByteArray),.int .i64 0]) ?_ 0 _ rfl;(with_reducible repeat (first|apply bN|apply bd|apply bA));exact BK633.out) Try.underlying36 rfl (by kernel_rfl) rfl (by (with_reducible repeat (first|apply bN|apply bd|apply bA));refine blk_put (cs:= #[.int .i64 t641,.int .i64 0]) ?_ 1 _ rfl;(with_reducible repeat (first|apply bN|apply bd|apply bA));refine blk_put (cs:= #[.int .i64 0,.int .i64 0]) ?_ 0 _ rfl;(with_reducible repeat (first|apply bN|apply bd|apply bA));refine blk_far ?_ NB634_633.out _;(with_reducible repeat (first|apply bN|apply bd|apply bA));refine blk_far ?_ NB634_633.out _;(with_reducible repeat (first|apply bN|apply bd|apply bA));refine blk_far ?_ NB634_633.out _;(with_reducible repeat (first|apply bN|apply bd|apply bA));refine blk_far ?_ NB634_633.out _;(with_reducible repeat (first|apply bN|apply bd|apply bA));exact BK634.out) Try.underlying79 rfl (by kernel_rfl)) rfl ?_
                exact ⟨_,by first|rfl|(simp [errW_none,errW_some] <;> rfl)|(simp [*,errW_none,errW_some] <;> rfl),by (with_reducible repeat (first|apply Kd.R_alloc|apply Kd.R_drewN|apply Kd.R_drew));exact Kd.R_mono (Kd.R_far (p:=⟨gb634,1,none⟩) (Kd.R_far (p:=⟨gb634,0,none⟩) (Kd.R_far (p:=⟨gb633,3,none⟩) (Kd.R_far (p:=⟨gb633,2,none⟩) (Kd.R_far (p:=⟨gb633,1,none⟩) (Kd.R_far (p:=⟨gb633,0,none⟩) (Kd.R_mono (Kd.R_types HO0_0.out BK633.out (by decide)) (fun k_ hk=> (⟨hk,hk.1.2⟩:_ ∧ k_ ≠ gb634))) (fun _ hk=> hk.1.2) (.slice Ao38 l0_0.length co38)) (fun _ hk=> hk.1.2) (.int .i64 a0_1)) (fun _ hk=> hk.1.2) (.string a0_2)) (fun _ hk=> hk.1.2) (.int .i64 (wrap64 (a0_3 + 1)))) (fun _ hk=> hk.2) (.int .i64 t641)) (fun _ hk=> hk.2) (.int .i64 t642)) (fun _ hk=> hk.1.1.1),by repeat (first|(with_reducible first|exact HB.out|apply bwA|apply bwN|apply bwD|refine bwS ?_ GE632.out|refine bwS ?_ GE633.out|refine bwS ?_ GE634.out)|exact HB.out),by repeat (first|(with_reducible first|exact HK.out|apply Kept.alloc|apply Kept.drewN|apply Kept.drew|refine Kept.setCell ?_ (.inr GW632.out) _|refine Kept.setCell ?_ (.inr GW633.out) _|refine Kept.setCell ?_ (.inr GW634.out) _)|exact HK.out)⟩
              · rw [if_neg c36] at H
                exact absurd H (by simp)
            · rw [if_neg c35] at H
              exact absurd H (by simp)
          · rw [if_neg c33] at H
            exact absurd H (by simp)
        · rw [if_neg c32] at H
          exact absurd H (by simp)
      · rw [if_neg c30] at H
        exact absurd H (by simp)
    · rw [if_neg c28] at H
      exact absurd H (by simp)
end Go.Proofs.Ytlogocmojnhpbaa.Print
